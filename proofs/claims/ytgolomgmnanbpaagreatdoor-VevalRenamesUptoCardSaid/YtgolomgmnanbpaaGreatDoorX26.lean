import Derived.Test.YtgolomgmnanbpaaGreatDoorX15
import Derived.Test.YtgolomgmnanbpaaGreatDoorX24
import Derived.Test.YtgolomgmnanbpaaGreatDoorX25
namespace Go.Proofs.YtgolomgmnanbpaaGreatDoor
set_option linter.unusedVariables false
set_option linter.unusedSimpArgs false
open Go.RowKit
attribute [local go_sem] run_index_arr run_part_agg run_part_one run_field_agg
theorem share3 {P : Program} {md : Region.Mode} {ops : Array Oper} {Q : Exit → Act → World → Prop} {S : World → Prop} {fuel : Nat} {listed : Array Bool} {act : List Value → List Value → List Value → Act} {R : World → List Value → List Value → List Value → Prop} {goal : Prop}
    (hleaf : ∀ Z a k v, R Z a k v → wpAnyH P md ops Q S fuel listed (act a k v) Z) (h : (∀ Z a k v, R Z a k v → wpAnyH P md ops Q S fuel listed (act a k v) Z) → goal) : goal := h hleaf
theorem wpAnyH_lis {P : Program} {md : Region.Mode} {ops : Array Oper} {Q : Exit → Act → World → Prop} {S : World → Prop} {fuel : Nat} {l l' : Array Bool} {a : Act} {w : World} (e : l = l') (h : wpAnyH P md ops Q S fuel l' a w) : wpAnyH P md ops Q S fuel l a w := by rw [e]; exact h
def RG (w : World) : Nat → Prop := fun b => b < w.heap.size ∨ w.heap.size + 4 ≤ b
def RB (w Z : World) (A K V D : Array Value) : Prop := Below w.heap.size w Z ∧ (Blk Z w.heap.size 28 A ∧ A.size = 8) ∧ (Blk Z (w.heap.size + 1) 28 K ∧ K.size = 8) ∧ (Blk Z (w.heap.size + 2) 28 V ∧ V.size = 8) ∧ Blk Z (w.heap.size + 3) 25 D
section
variable {w Z Z' : World} {A K V D : Array Value}
theorem RB.bel (h : RB w Z A K V D) (hb : Below Z.heap.size Z Z') : RB w Z' A K V D := ⟨h.1.trans (hb.mono h.1.size), ⟨h.2.1.1.keep hb, h.2.1.2⟩, ⟨h.2.2.1.1.keep hb, h.2.2.1.2⟩, ⟨h.2.2.2.1.1.keep hb, h.2.2.2.1.2⟩, h.2.2.2.2.keep hb⟩
theorem RB.a (h : RB w Z A K V D) : Blk Z w.heap.size 28 A := h.2.1.1
theorem RB.k (h : RB w Z A K V D) : Blk Z (w.heap.size + 1) 28 K := h.2.2.1.1
theorem RB.v (h : RB w Z A K V D) : Blk Z (w.heap.size + 2) 28 V := h.2.2.2.1.1
theorem RB.d (h : RB w Z A K V D) : Blk Z (w.heap.size + 3) 25 D := h.2.2.2.2
theorem RB.res (h : RB w Z A K V D) {cs : List Value} {x : EJ} (hv : ER Z' (FN (fun b => b < w.heap.size) Z) cs x) : ER Z' (RG w) cs x := hv.mono fun b _ hb => hb.imp id fun hb => by
  have := h.2.2.2.2.lt
  omega
theorem setAll {g : Nat} {t : TypeId} {cs : Array Value} {l : List Value} (h : Blk Z g t cs) (hc : cs.size = 8) (hl : l.length = 8) : Blk (Z.setCells g 0 l) g t l.toArray := by
  obtain ⟨cs⟩ := cs
  match cs, l, hc, hl with
  | [_, _, _, _, _, _, _, _], [x0, x1, x2, x3, x4, x5, x6, x7], _, _ => exact Blk.set8C h x0 x1 x2 x3 x4 x5 x6 x7
theorem RB.sta (h : RB w Z A K V D) (l : List Value) (hl : l.length = 8) : RB w (Z.setCells w.heap.size 0 l) l.toArray K V D :=
  ⟨bel_setC (Nat.le_refl _) l 0 h.1, ⟨setAll h.a h.2.1.2 hl, hl⟩, ⟨Blk.farC (by omega) l 0 h.k, h.2.2.1.2⟩, ⟨Blk.farC (by omega) l 0 h.v, h.2.2.2.1.2⟩, Blk.farC (by omega) l 0 h.d⟩
theorem RB.stk (h : RB w Z A K V D) (l : List Value) (hl : l.length = 8) : RB w (Z.setCells (w.heap.size + 1) 0 l) A l.toArray V D :=
  ⟨bel_setC (by omega) l 0 h.1, ⟨Blk.farC (by omega) l 0 h.a, h.2.1.2⟩, ⟨setAll h.k h.2.2.1.2 hl, hl⟩, ⟨Blk.farC (by omega) l 0 h.v, h.2.2.2.1.2⟩, Blk.farC (by omega) l 0 h.d⟩
theorem RB.stv (h : RB w Z A K V D) (l : List Value) (hl : l.length = 8) : RB w (Z.setCells (w.heap.size + 2) 0 l) A K l.toArray D :=
  ⟨bel_setC (by omega) l 0 h.1, ⟨Blk.farC (by omega) l 0 h.a, h.2.1.2⟩, ⟨Blk.farC (by omega) l 0 h.k, h.2.2.1.2⟩, ⟨setAll h.v h.2.2.2.1.2 hl, hl⟩, Blk.farC (by omega) l 0 h.d⟩
theorem RB.tha (h : RB w Z A K V D) {l : List Value} (hl : l.length = 8) : World.there Z w.heap.size 0 l.toArray.size := by have := h.a.there; rw [h.2.1.2] at this; simpa [hl] using this
theorem RB.thk (h : RB w Z A K V D) {l : List Value} (hl : l.length = 8) : World.there Z (w.heap.size + 1) 0 l.toArray.size := by have := h.k.there; rw [h.2.2.1.2] at this; simpa [hl] using this
theorem RB.thv (h : RB w Z A K V D) {l : List Value} (hl : l.length = 8) : World.there Z (w.heap.size + 2) 0 l.toArray.size := by have := h.v.there; rw [h.2.2.2.1.2] at this; simpa [hl] using this
theorem stE {i : Nat} (hi : i < 4) {cs : List Value} {x : EJ} (l : List Value) (h : ER Z (RG w) cs x) : ER (Z.setCells (w.heap.size + i) 0 l) (RG w) cs x :=
  h.keep (KeepF.setC (F := RG w) (b := w.heap.size + i) (fun b hb => by rcases hb with hb | hb <;> omega) l 0 KeepF.refl)
theorem sz8 {l : List Value} (hl : l.length = 8) : (Tryz.prog.info? 28).map (·.size) = some l.toArray.size := by
  rw [show l.toArray.size = 8 from hl]; kernel_rfl
theorem all1 {l : List Value} (h : ∀ u ∈ l, u.oneCell' = true) : l.toArray.all (·.oneCell') = true := by simpa using h
end
theorem map_few (l : List SJ) (id : List UInt8) (v : JV) : (mapJ l id v).1.length ≤ 4 ∧ ∀ y ∈ (mapJ l id v).1, good y.1 = true ∧ good y.2 = true := by
  rcases mapJ_out l id v with ⟨q, hq, _⟩ | ⟨_, h1, h2⟩
  · rw [hq]; exact ⟨by simp, fun y hy => by cases hy⟩
  · exact ⟨h1, fun y hy => ⟨(h2 y hy).1, (h2 y hy).2.1⟩⟩
theorem cam_loop {nm : List UInt8} {a k v : EJ} (hn : nm.length ≤ 4194304) (ha : camE a) (hk : camE k) (hv : camE v) : camSL (loopJ nm a k v) := by
  have hz : camE eZero := cam_leaf (by unfold iw; omega) came_z (by simp)
  unfold loopJ camSL camS camSL camS
  exact ⟨⟨by unfold iw; omega, hn, ha, hz, by simp, by simp, ⟨⟨by unfold iw; omega, by simp, hk, hv, by simp, by simp, trivial, trivial⟩, trivial⟩, trivial⟩, trivial⟩
theorem sml_loop {nm : List UInt8} {a k v : EJ} (ha : smlE a) (hk : smlE k) (hv : smlE v) : smlSL (loopJ nm a k v) := by
  unfold loopJ smlSL smlS smlSL smlS
  exact ⟨⟨ha, sml_leaf, ⟨⟨hk, hv, trivial, trivial⟩, trivial⟩, trivial⟩, trivial⟩
theorem cam_rn {f t : List UInt8} (hf : t.length ≤ 4194304) : ∀ (r : Nat) (x : EJ), inD r x → camE x → camE (rnE f t x)
  | 0, _, h, _ => h.elim
  | r + 1, .mk k v s kids, h, hc => by
    unfold camE at hc
    unfold rnE camE
    obtain ⟨h1, h2, h3, h4, h5⟩ := hc
    refine ⟨h1, h2, ?_, by rw [rnL_len]; exact h4, ?_⟩
    · split
      · unfold rnN; split
        · exact hf
        · exact h3
      · exact h3
    · rw [rnL_map]
      refine camEL_iff.2 fun y hy => ?_
      obtain ⟨z, hz, rfl⟩ := List.mem_map.1 hy
      exact cam_rn hf r z (h z hz) (camEL_iff.1 h5 z hz)
theorem sml_rn {f t : List UInt8} : ∀ (r : Nat) (x : EJ), inD r x → smlE x → smlE (rnE f t x)
  | 0, _, h, _ => h.elim
  | r + 1, .mk k v s kids, h, hc => by
    unfold smlE at hc
    unfold rnE smlE
    refine ⟨by rw [rnL_len]; exact hc.1, ?_⟩
    rw [rnL_map]
    refine smlEL_iff.2 fun y hy => ?_
    obtain ⟨z, hz, rfl⟩ := List.mem_map.1 hy
    exact sml_rn r z (h z hz) (smlEL_iff.1 hc.2 z hz)
set_option maxRecDepth 100000 in
set_option maxHeartbeats 32000000 in
theorem vevalRenames_any (cs0 : Array Value) (x0 : EJ) (cs1 : Array Value) (x1 : EJ) (cs2 : Array Value) (x2 : EJ) (cs3 : Array Value) (x3 : JV) (w : World) (hG : GOE w) (h0 : ER w TT cs0.toList x0) (c0 : locE 4194304 x0) (h1 : ER w TT cs1.toList x1) (c1 : locE 4194304 x1) (h2 : ER w TT cs2.toList x2) (c2 : locE 4194304 x2) (h3 : VR w TT cs3.toList x3) (c3 : Came x3) :
    Calls Tryz.prog 8 #[.agg cs0, .agg cs1, .agg cs2, .agg cs3] w (BoolS true w) := by
  obtain ⟨l0, rfl⟩ : ∃ l : List Value, cs0 = l.toArray := ⟨cs0.toList, by simp⟩
  obtain ⟨l1, rfl⟩ : ∃ l : List Value, cs1 = l.toArray := ⟨cs1.toList, by simp⟩
  obtain ⟨l2, rfl⟩ : ∃ l : List Value, cs2 = l.toArray := ⟨cs2.toList, by simp⟩
  obtain ⟨l3, rfl⟩ : ∃ l : List Value, cs3 = l.toArray := ⟨cs3.toList, by simp⟩
  replace h0 : ER w TT l0 x0 := by simpa using h0
  replace h1 : ER w TT l1 x1 := by simpa using h1
  replace h2 : ER w TT l2 x2 := by simpa using h2
  replace h3 : VR w TT l3 x3 := by simpa using h3
  have g0 := cam_locE _ c0
  have g1 := cam_locE _ c1
  have g2 := cam_locE _ c2
  obtain ⟨a, ha⟩ : ∃ y, cutE 8 x0 = y := ⟨_, rfl⟩
  obtain ⟨ke, hke⟩ : ∃ y, cutE 8 x1 = y := ⟨_, rfl⟩
  obtain ⟨ve, hve⟩ : ∃ y, cutE 8 x2 = y := ⟨_, rfl⟩
  have cut (x : EJ) (cs : List Value) (hx : ER w TT cs x) (hc : camE x) (y : EJ) (hy : cutE 8 x = y) (W : World) (hb : Below w.heap.size w W) : Calls Tryz.prog 11 #[.agg cs.toArray, .int .i64 8] W (CutP y (fun b => b < w.heap.size) W) := by
    rw [← hy]
    exact lExprC (fun b => b < w.heap.size) 8 x cs 8 W rfl (fun b h => Nat.lt_of_lt_of_le h hb.size) ((hx.mono (F' := fun b => b < w.heap.size) fun b hb _ => hb).bel hb) hc (by omega)
  have HXa := Lib.hid (cut x0 l0 h0 g0 a ha)
  have HXk := Lib.hid (cut x1 l1 h1 g1 ke hke)
  have HXv := Lib.hid (cut x2 l2 h2 g2 ve hve)
  have HCM := Lib.hid (show (camE a ∧ smlE a ∧ inD 9 a) ∧ (camE ke ∧ smlE ke ∧ inD 9 ke) ∧ (camE ve ∧ smlE ve ∧ inD 9 ve) by
    rw [← ha, ← hke, ← hve]
    exact ⟨⟨cam_cutE 8 _ g0, sml_cutE 8 _, inD_cut 8 _⟩, ⟨cam_cutE 8 _ g1, sml_cutE 8 _, inD_cut 8 _⟩, ⟨cam_cutE 8 _ g2, sml_cutE 8 _, inD_cut 8 _⟩⟩)
  have HV3 := Lib.hid (fun (W : World) (h : Below w.heap.size w W) => h3.bel h)
  have HC3 := Lib.hid c3
  obtain ⟨ka, pa, na, sa, Aa, naa, caa, Ba, nba, cba, za, Ca, nca, cca, rfl⟩ := h0.form
  obtain ⟨kk, pk, nk, sk, Ak, nak, cak, Bk, nbk, cbk, zk, Ck, nck, cck, rfl⟩ := h1.form
  obtain ⟨kv, pv, nv, sv, Av, nav, cav, Bv, nbv, cbv, zv, Cv, ncv, ccv, rfl⟩ := h2.form
  obtain ⟨kd, nd, sd, Ad, nad, cad, Bd, nbd, cbd, rfl⟩ := h3.form
  have HG := Lib.hid hG
  have HH0 := Lib.hid (((((Held.nil w).push 28 #[.int .i64 ka, .int .i64 pa, .int .i64 na, .string sa, .slice Aa naa caa, .slice Ba nba cba, .string za, .slice Ca nca cca] (g := w.heap.size) rfl).push 28 #[.int .i64 kk, .int .i64 pk, .int .i64 nk, .string sk, .slice Ak nak cak, .slice Bk nbk cbk, .string zk, .slice Ck nck cck] (g := w.heap.size + 1) (by simp)).push 28 #[.int .i64 kv, .int .i64 pv, .int .i64 nv, .string sv, .slice Av nav cav, .slice Bv nbv cbv, .string zv, .slice Cv ncv ccv] (g := w.heap.size + 2) (by simp)).push 25 #[.int .i64 kd, .int .i64 nd, .string sd, .slice Ad nad cad, .slice Bd nbd cbd] (g := w.heap.size + 3) (by simp))
  clear hG h0 h1 h2 h3 c0 c1 c2 c3 g0 g1 g2 ha hke hve cut
  go_enter Tryz.func8, Tryz.ntmps8
  go_wp2_with fail
  refine (lWakes _ (HG.out.keep HH0.out.1)).mono ?_
  rintro e w1 ⟨rfl, hb1⟩
  have HH1 := Lib.hid (HH0.out.keep hb1)
  clear hb1 HH0
  go_upto_region 3 with fail
  go_cut [] (fun wx => ∃ (acs kcs vcs : List Value) (W : World), W = wx ∧ Hid (RB w W acs.toArray kcs.toArray vcs.toArray #[.int .i64 kd, .int .i64 nd, .string sd, .slice Ad nad cad, .slice Bd nbd cbd]) ∧ Hid (ER W (RG w) acs a) ∧ Hid (ER W (RG w) kcs ke) ∧ Hid (ER W (RG w) vcs ve))
  case first =>
    apply share3 (R := fun Z acs kcs vcs => Hid (RB w Z #[.int .i64 ka, .int .i64 pa, .int .i64 na, .string sa, .slice Aa naa caa, .slice Ba nba cba, .string za, .slice Ca nca cca] #[.int .i64 kk, .int .i64 pk, .int .i64 nk, .string sk, .slice Ak nak cak, .slice Bk nbk cbk, .string zk, .slice Ck nck cck] #[.int .i64 kv, .int .i64 pv, .int .i64 nv, .string sv, .slice Av nav cav, .slice Bv nbv cbv, .string zv, .slice Cv ncv ccv] #[.int .i64 kd, .int .i64 nd, .string sd, .slice Ad nad cad, .slice Bd nbd cbd]) ∧ Hid (ER Z (RG w) acs a) ∧ Hid (ER Z (RG w) kcs ke) ∧ Hid (ER Z (RG w) vcs ve))
    case h =>
      intro HL
      refine wp_region_held_drew (S := fun _ => True) (by kernel_rfl) trivial (fun hHeld => ?_)
      refine wpAnyH_worldM (fun Z0 hw0 => ?_)
      have HB := Lib.hid (show RB w Z0 #[.int .i64 ka, .int .i64 pa, .int .i64 na, .string sa, .slice Aa naa caa, .slice Ba nba cba, .string za, .slice Ca nca cca] #[.int .i64 kk, .int .i64 pk, .int .i64 nk, .string sk, .slice Ak nak cak, .slice Bk nbk cbk, .string zk, .slice Ck nck cck] #[.int .i64 kv, .int .i64 pv, .int .i64 nv, .string sv, .slice Av nav cav, .slice Bv nbv cbv, .string zv, .slice Cv ncv ccv] #[.int .i64 kd, .int .i64 nd, .string sd, .slice Ad nad cad, .slice Bd nbd cbd] by rw [hw0]; exact ⟨HH1.out.1.drew, ⟨HH1.out.b3.drew, rfl⟩, ⟨HH1.out.b2.drew, rfl⟩, ⟨HH1.out.b1.drew, rfl⟩, HH1.out.b0.drew⟩)
      clear hw0
      refine wpAnyH_ready (rs := [0, 2, 4]) (by kernel_rfl) (by simp) ?_
      refine AllReadyH.cons (o := ⟨some 16, _, _, _, _, _⟩) rfl (fun K hK => ?_) (AllReadyH.cons (o := ⟨some 18, _, _, _, _, _⟩) rfl (fun K hK => ?_) (AllReadyH.cons (o := ⟨some 20, _, _, _, _, _⟩) rfl (fun K hK => ?_) AllReadyH.nil))
      · obtain ⟨c8, f8, l8⟩ := HB.out.a.rules
        go_simp
        refine hK.out _ _ (trivial) (fun hHeld2 => ?_)
        clear hK K hHeld c8 f8 l8
        have hHeld := hHeld2
        clear hHeld2
        try simp only [Act.put, List.setIfInBounds_toArray, List.set_cons_zero, List.set_cons_succ]
        refine wpAnyH_ready (rs := [1, 2, 4]) (by kernel_rfl) (by simp) ?_
        refine AllReadyH.cons (o := ⟨some 17, _, _, _, _, _⟩) rfl (fun K hK => ?_) (AllReadyH.cons (o := ⟨some 18, _, _, _, _, _⟩) rfl (fun K hK => ?_) (AllReadyH.cons (o := ⟨some 20, _, _, _, _, _⟩) rfl (fun K hK => ?_) AllReadyH.nil))
        · go_simp
          refine (HXa.out _ HB.out.1).mono ?_
          rintro e Z1 ⟨acs, rfl, hv, hb⟩
          have HEa := Lib.hid (HB.out.res hv)
          clear hv
          replace HB := Lib.hid (HB.out.bel hb)
          clear hb
          refine hK.out _ _ (trivial) (fun hHeld2 => ?_)
          clear hK K hHeld
          have hHeld := hHeld2
          clear hHeld2
          try simp only [Act.put, List.setIfInBounds_toArray, List.set_cons_zero, List.set_cons_succ]
          refine wpAnyH_ready (rs := [2, 4]) (by kernel_rfl) (by simp) ?_
          refine AllReadyH.cons (o := ⟨some 18, _, _, _, _, _⟩) rfl (fun K hK => ?_) (AllReadyH.cons (o := ⟨some 20, _, _, _, _, _⟩) rfl (fun K hK => ?_) AllReadyH.nil)
          · obtain ⟨c8, f8, l8⟩ := HB.out.k.rules
            go_simp
            refine hK.out _ _ (trivial) (fun hHeld2 => ?_)
            clear hK K hHeld c8 f8 l8
            have hHeld := hHeld2
            clear hHeld2
            try simp only [Act.put, List.setIfInBounds_toArray, List.set_cons_zero, List.set_cons_succ]
            refine wpAnyH_ready (rs := [3, 4]) (by kernel_rfl) (by simp) ?_
            refine AllReadyH.cons (o := ⟨some 19, _, _, _, _, _⟩) rfl (fun K hK => ?_) (AllReadyH.cons (o := ⟨some 20, _, _, _, _, _⟩) rfl (fun K hK => ?_) AllReadyH.nil)
            · go_simp
              refine (HXk.out _ HB.out.1).mono ?_
              rintro e Z2 ⟨kcs, rfl, hv, hb⟩
              have HEk := Lib.hid (HB.out.res hv)
              clear hv
              replace HEa := Lib.hid (HEa.out.bel hb)
              replace HB := Lib.hid (HB.out.bel hb)
              clear hb
              refine hK.out _ _ (trivial) (fun hHeld2 => ?_)
              clear hK K hHeld
              have hHeld := hHeld2
              clear hHeld2
              try simp only [Act.put, List.setIfInBounds_toArray, List.set_cons_zero, List.set_cons_succ]
              refine wpAnyH_ready (rs := [4]) (by kernel_rfl) (by simp) ?_
              refine AllReadyH.cons (o := ⟨some 20, _, _, _, _, _⟩) rfl (fun K hK => ?_) AllReadyH.nil
              obtain ⟨c8, f8, l8⟩ := HB.out.v.rules
              go_simp
              refine hK.out _ _ (trivial) (fun hHeld2 => ?_)
              clear hK K hHeld c8 f8 l8
              have hHeld := hHeld2
              clear hHeld2
              try simp only [Act.put, List.setIfInBounds_toArray, List.set_cons_zero, List.set_cons_succ]
              refine wpAnyH_ready (rs := [5]) (by kernel_rfl) (by simp) ?_
              refine AllReadyH.cons (o := ⟨some 21, _, _, _, _, _⟩) rfl (fun K hK => ?_) AllReadyH.nil
              go_simp
              refine (HXv.out _ HB.out.1).mono ?_
              rintro e Z3 ⟨vcs, rfl, hv, hb⟩
              have HEv := Lib.hid (HB.out.res hv)
              clear hv
              replace HEa := Lib.hid (HEa.out.bel hb)
              replace HEk := Lib.hid (HEk.out.bel hb)
              replace HB := Lib.hid (HB.out.bel hb)
              clear hb
              refine hK.out _ _ (trivial) (fun hHeld2 => ?_)
              clear hK K hHeld
              have hHeld := hHeld2
              clear hHeld2
              try simp only [Act.put, List.setIfInBounds_toArray, List.set_cons_zero, List.set_cons_succ]
              refine wpAnyH_lis (l' := #[true, true, true, true, true, true, false, false, false]) (by kernel_rfl) ?_
              exact HL _ _ _ _ ⟨HB, HEa, HEk, HEv⟩
            · obtain ⟨c8, f8, l8⟩ := HB.out.v.rules
              go_simp
              refine hK.out _ _ (trivial) (fun hHeld2 => ?_)
              clear hK K hHeld c8 f8 l8
              have hHeld := hHeld2
              clear hHeld2
              try simp only [Act.put, List.setIfInBounds_toArray, List.set_cons_zero, List.set_cons_succ]
              refine wpAnyH_ready (rs := [3]) (by kernel_rfl) (by simp) ?_
              refine AllReadyH.cons (o := ⟨some 19, _, _, _, _, _⟩) rfl (fun K hK => ?_) AllReadyH.nil
              go_simp
              refine (HXk.out _ HB.out.1).mono ?_
              rintro e Z4 ⟨kcs, rfl, hv, hb⟩
              have HEk := Lib.hid (HB.out.res hv)
              clear hv
              replace HEa := Lib.hid (HEa.out.bel hb)
              replace HB := Lib.hid (HB.out.bel hb)
              clear hb
              refine hK.out _ _ (trivial) (fun hHeld2 => ?_)
              clear hK K hHeld
              have hHeld := hHeld2
              clear hHeld2
              try simp only [Act.put, List.setIfInBounds_toArray, List.set_cons_zero, List.set_cons_succ]
              refine wpAnyH_ready (rs := [5]) (by kernel_rfl) (by simp) ?_
              refine AllReadyH.cons (o := ⟨some 21, _, _, _, _, _⟩) rfl (fun K hK => ?_) AllReadyH.nil
              go_simp
              refine (HXv.out _ HB.out.1).mono ?_
              rintro e Z5 ⟨vcs, rfl, hv, hb⟩
              have HEv := Lib.hid (HB.out.res hv)
              clear hv
              replace HEa := Lib.hid (HEa.out.bel hb)
              replace HEk := Lib.hid (HEk.out.bel hb)
              replace HB := Lib.hid (HB.out.bel hb)
              clear hb
              refine hK.out _ _ (trivial) (fun hHeld2 => ?_)
              clear hK K hHeld
              have hHeld := hHeld2
              clear hHeld2
              try simp only [Act.put, List.setIfInBounds_toArray, List.set_cons_zero, List.set_cons_succ]
              refine wpAnyH_lis (l' := #[true, true, true, true, true, true, false, false, false]) (by kernel_rfl) ?_
              exact HL _ _ _ _ ⟨HB, HEa, HEk, HEv⟩
          · obtain ⟨c8, f8, l8⟩ := HB.out.v.rules
            go_simp
            refine hK.out _ _ (trivial) (fun hHeld2 => ?_)
            clear hK K hHeld c8 f8 l8
            have hHeld := hHeld2
            clear hHeld2
            try simp only [Act.put, List.setIfInBounds_toArray, List.set_cons_zero, List.set_cons_succ]
            refine wpAnyH_ready (rs := [2]) (by kernel_rfl) (by simp) ?_
            refine AllReadyH.cons (o := ⟨some 18, _, _, _, _, _⟩) rfl (fun K hK => ?_) AllReadyH.nil
            obtain ⟨c8, f8, l8⟩ := HB.out.k.rules
            go_simp
            refine hK.out _ _ (trivial) (fun hHeld2 => ?_)
            clear hK K hHeld c8 f8 l8
            have hHeld := hHeld2
            clear hHeld2
            try simp only [Act.put, List.setIfInBounds_toArray, List.set_cons_zero, List.set_cons_succ]
            refine wpAnyH_ready (rs := [3]) (by kernel_rfl) (by simp) ?_
            refine AllReadyH.cons (o := ⟨some 19, _, _, _, _, _⟩) rfl (fun K hK => ?_) AllReadyH.nil
            go_simp
            refine (HXk.out _ HB.out.1).mono ?_
            rintro e Z6 ⟨kcs, rfl, hv, hb⟩
            have HEk := Lib.hid (HB.out.res hv)
            clear hv
            replace HEa := Lib.hid (HEa.out.bel hb)
            replace HB := Lib.hid (HB.out.bel hb)
            clear hb
            refine hK.out _ _ (trivial) (fun hHeld2 => ?_)
            clear hK K hHeld
            have hHeld := hHeld2
            clear hHeld2
            try simp only [Act.put, List.setIfInBounds_toArray, List.set_cons_zero, List.set_cons_succ]
            refine wpAnyH_ready (rs := [5]) (by kernel_rfl) (by simp) ?_
            refine AllReadyH.cons (o := ⟨some 21, _, _, _, _, _⟩) rfl (fun K hK => ?_) AllReadyH.nil
            go_simp
            refine (HXv.out _ HB.out.1).mono ?_
            rintro e Z7 ⟨vcs, rfl, hv, hb⟩
            have HEv := Lib.hid (HB.out.res hv)
            clear hv
            replace HEa := Lib.hid (HEa.out.bel hb)
            replace HEk := Lib.hid (HEk.out.bel hb)
            replace HB := Lib.hid (HB.out.bel hb)
            clear hb
            refine hK.out _ _ (trivial) (fun hHeld2 => ?_)
            clear hK K hHeld
            have hHeld := hHeld2
            clear hHeld2
            try simp only [Act.put, List.setIfInBounds_toArray, List.set_cons_zero, List.set_cons_succ]
            refine wpAnyH_lis (l' := #[true, true, true, true, true, true, false, false, false]) (by kernel_rfl) ?_
            exact HL _ _ _ _ ⟨HB, HEa, HEk, HEv⟩
        · obtain ⟨c8, f8, l8⟩ := HB.out.k.rules
          go_simp
          refine hK.out _ _ (trivial) (fun hHeld2 => ?_)
          clear hK K hHeld c8 f8 l8
          have hHeld := hHeld2
          clear hHeld2
          try simp only [Act.put, List.setIfInBounds_toArray, List.set_cons_zero, List.set_cons_succ]
          refine wpAnyH_ready (rs := [1, 4]) (by kernel_rfl) (by simp) ?_
          refine AllReadyH.cons (o := ⟨some 17, _, _, _, _, _⟩) rfl (fun K hK => ?_) (AllReadyH.cons (o := ⟨some 20, _, _, _, _, _⟩) rfl (fun K hK => ?_) AllReadyH.nil)
          · go_simp
            refine (HXa.out _ HB.out.1).mono ?_
            rintro e Z8 ⟨acs, rfl, hv, hb⟩
            have HEa := Lib.hid (HB.out.res hv)
            clear hv
            replace HB := Lib.hid (HB.out.bel hb)
            clear hb
            refine hK.out _ _ (trivial) (fun hHeld2 => ?_)
            clear hK K hHeld
            have hHeld := hHeld2
            clear hHeld2
            try simp only [Act.put, List.setIfInBounds_toArray, List.set_cons_zero, List.set_cons_succ]
            refine wpAnyH_ready (rs := [3, 4]) (by kernel_rfl) (by simp) ?_
            refine AllReadyH.cons (o := ⟨some 19, _, _, _, _, _⟩) rfl (fun K hK => ?_) (AllReadyH.cons (o := ⟨some 20, _, _, _, _, _⟩) rfl (fun K hK => ?_) AllReadyH.nil)
            · go_simp
              refine (HXk.out _ HB.out.1).mono ?_
              rintro e Z9 ⟨kcs, rfl, hv, hb⟩
              have HEk := Lib.hid (HB.out.res hv)
              clear hv
              replace HEa := Lib.hid (HEa.out.bel hb)
              replace HB := Lib.hid (HB.out.bel hb)
              clear hb
              refine hK.out _ _ (trivial) (fun hHeld2 => ?_)
              clear hK K hHeld
              have hHeld := hHeld2
              clear hHeld2
              try simp only [Act.put, List.setIfInBounds_toArray, List.set_cons_zero, List.set_cons_succ]
              refine wpAnyH_ready (rs := [4]) (by kernel_rfl) (by simp) ?_
              refine AllReadyH.cons (o := ⟨some 20, _, _, _, _, _⟩) rfl (fun K hK => ?_) AllReadyH.nil
              obtain ⟨c8, f8, l8⟩ := HB.out.v.rules
              go_simp
              refine hK.out _ _ (trivial) (fun hHeld2 => ?_)
              clear hK K hHeld c8 f8 l8
              have hHeld := hHeld2
              clear hHeld2
              try simp only [Act.put, List.setIfInBounds_toArray, List.set_cons_zero, List.set_cons_succ]
              refine wpAnyH_ready (rs := [5]) (by kernel_rfl) (by simp) ?_
              refine AllReadyH.cons (o := ⟨some 21, _, _, _, _, _⟩) rfl (fun K hK => ?_) AllReadyH.nil
              go_simp
              refine (HXv.out _ HB.out.1).mono ?_
              rintro e Z10 ⟨vcs, rfl, hv, hb⟩
              have HEv := Lib.hid (HB.out.res hv)
              clear hv
              replace HEa := Lib.hid (HEa.out.bel hb)
              replace HEk := Lib.hid (HEk.out.bel hb)
              replace HB := Lib.hid (HB.out.bel hb)
              clear hb
              refine hK.out _ _ (trivial) (fun hHeld2 => ?_)
              clear hK K hHeld
              have hHeld := hHeld2
              clear hHeld2
              try simp only [Act.put, List.setIfInBounds_toArray, List.set_cons_zero, List.set_cons_succ]
              refine wpAnyH_lis (l' := #[true, true, true, true, true, true, false, false, false]) (by kernel_rfl) ?_
              exact HL _ _ _ _ ⟨HB, HEa, HEk, HEv⟩
            · obtain ⟨c8, f8, l8⟩ := HB.out.v.rules
              go_simp
              refine hK.out _ _ (trivial) (fun hHeld2 => ?_)
              clear hK K hHeld c8 f8 l8
              have hHeld := hHeld2
              clear hHeld2
              try simp only [Act.put, List.setIfInBounds_toArray, List.set_cons_zero, List.set_cons_succ]
              refine wpAnyH_ready (rs := [3]) (by kernel_rfl) (by simp) ?_
              refine AllReadyH.cons (o := ⟨some 19, _, _, _, _, _⟩) rfl (fun K hK => ?_) AllReadyH.nil
              go_simp
              refine (HXk.out _ HB.out.1).mono ?_
              rintro e Z11 ⟨kcs, rfl, hv, hb⟩
              have HEk := Lib.hid (HB.out.res hv)
              clear hv
              replace HEa := Lib.hid (HEa.out.bel hb)
              replace HB := Lib.hid (HB.out.bel hb)
              clear hb
              refine hK.out _ _ (trivial) (fun hHeld2 => ?_)
              clear hK K hHeld
              have hHeld := hHeld2
              clear hHeld2
              try simp only [Act.put, List.setIfInBounds_toArray, List.set_cons_zero, List.set_cons_succ]
              refine wpAnyH_ready (rs := [5]) (by kernel_rfl) (by simp) ?_
              refine AllReadyH.cons (o := ⟨some 21, _, _, _, _, _⟩) rfl (fun K hK => ?_) AllReadyH.nil
              go_simp
              refine (HXv.out _ HB.out.1).mono ?_
              rintro e Z12 ⟨vcs, rfl, hv, hb⟩
              have HEv := Lib.hid (HB.out.res hv)
              clear hv
              replace HEa := Lib.hid (HEa.out.bel hb)
              replace HEk := Lib.hid (HEk.out.bel hb)
              replace HB := Lib.hid (HB.out.bel hb)
              clear hb
              refine hK.out _ _ (trivial) (fun hHeld2 => ?_)
              clear hK K hHeld
              have hHeld := hHeld2
              clear hHeld2
              try simp only [Act.put, List.setIfInBounds_toArray, List.set_cons_zero, List.set_cons_succ]
              refine wpAnyH_lis (l' := #[true, true, true, true, true, true, false, false, false]) (by kernel_rfl) ?_
              exact HL _ _ _ _ ⟨HB, HEa, HEk, HEv⟩
          · obtain ⟨c8, f8, l8⟩ := HB.out.v.rules
            go_simp
            refine hK.out _ _ (trivial) (fun hHeld2 => ?_)
            clear hK K hHeld c8 f8 l8
            have hHeld := hHeld2
            clear hHeld2
            try simp only [Act.put, List.setIfInBounds_toArray, List.set_cons_zero, List.set_cons_succ]
            refine wpAnyH_ready (rs := [1]) (by kernel_rfl) (by simp) ?_
            refine AllReadyH.cons (o := ⟨some 17, _, _, _, _, _⟩) rfl (fun K hK => ?_) AllReadyH.nil
            go_simp
            refine (HXa.out _ HB.out.1).mono ?_
            rintro e Z13 ⟨acs, rfl, hv, hb⟩
            have HEa := Lib.hid (HB.out.res hv)
            clear hv
            replace HB := Lib.hid (HB.out.bel hb)
            clear hb
            refine hK.out _ _ (trivial) (fun hHeld2 => ?_)
            clear hK K hHeld
            have hHeld := hHeld2
            clear hHeld2
            try simp only [Act.put, List.setIfInBounds_toArray, List.set_cons_zero, List.set_cons_succ]
            refine wpAnyH_ready (rs := [3]) (by kernel_rfl) (by simp) ?_
            refine AllReadyH.cons (o := ⟨some 19, _, _, _, _, _⟩) rfl (fun K hK => ?_) AllReadyH.nil
            go_simp
            refine (HXk.out _ HB.out.1).mono ?_
            rintro e Z14 ⟨kcs, rfl, hv, hb⟩
            have HEk := Lib.hid (HB.out.res hv)
            clear hv
            replace HEa := Lib.hid (HEa.out.bel hb)
            replace HB := Lib.hid (HB.out.bel hb)
            clear hb
            refine hK.out _ _ (trivial) (fun hHeld2 => ?_)
            clear hK K hHeld
            have hHeld := hHeld2
            clear hHeld2
            try simp only [Act.put, List.setIfInBounds_toArray, List.set_cons_zero, List.set_cons_succ]
            refine wpAnyH_ready (rs := [5]) (by kernel_rfl) (by simp) ?_
            refine AllReadyH.cons (o := ⟨some 21, _, _, _, _, _⟩) rfl (fun K hK => ?_) AllReadyH.nil
            go_simp
            refine (HXv.out _ HB.out.1).mono ?_
            rintro e Z15 ⟨vcs, rfl, hv, hb⟩
            have HEv := Lib.hid (HB.out.res hv)
            clear hv
            replace HEa := Lib.hid (HEa.out.bel hb)
            replace HEk := Lib.hid (HEk.out.bel hb)
            replace HB := Lib.hid (HB.out.bel hb)
            clear hb
            refine hK.out _ _ (trivial) (fun hHeld2 => ?_)
            clear hK K hHeld
            have hHeld := hHeld2
            clear hHeld2
            try simp only [Act.put, List.setIfInBounds_toArray, List.set_cons_zero, List.set_cons_succ]
            refine wpAnyH_lis (l' := #[true, true, true, true, true, true, false, false, false]) (by kernel_rfl) ?_
            exact HL _ _ _ _ ⟨HB, HEa, HEk, HEv⟩
        · obtain ⟨c8, f8, l8⟩ := HB.out.v.rules
          go_simp
          refine hK.out _ _ (trivial) (fun hHeld2 => ?_)
          clear hK K hHeld c8 f8 l8
          have hHeld := hHeld2
          clear hHeld2
          try simp only [Act.put, List.setIfInBounds_toArray, List.set_cons_zero, List.set_cons_succ]
          refine wpAnyH_ready (rs := [1, 2]) (by kernel_rfl) (by simp) ?_
          refine AllReadyH.cons (o := ⟨some 17, _, _, _, _, _⟩) rfl (fun K hK => ?_) (AllReadyH.cons (o := ⟨some 18, _, _, _, _, _⟩) rfl (fun K hK => ?_) AllReadyH.nil)
          · go_simp
            refine (HXa.out _ HB.out.1).mono ?_
            rintro e Z16 ⟨acs, rfl, hv, hb⟩
            have HEa := Lib.hid (HB.out.res hv)
            clear hv
            replace HB := Lib.hid (HB.out.bel hb)
            clear hb
            refine hK.out _ _ (trivial) (fun hHeld2 => ?_)
            clear hK K hHeld
            have hHeld := hHeld2
            clear hHeld2
            try simp only [Act.put, List.setIfInBounds_toArray, List.set_cons_zero, List.set_cons_succ]
            refine wpAnyH_ready (rs := [2]) (by kernel_rfl) (by simp) ?_
            refine AllReadyH.cons (o := ⟨some 18, _, _, _, _, _⟩) rfl (fun K hK => ?_) AllReadyH.nil
            obtain ⟨c8, f8, l8⟩ := HB.out.k.rules
            go_simp
            refine hK.out _ _ (trivial) (fun hHeld2 => ?_)
            clear hK K hHeld c8 f8 l8
            have hHeld := hHeld2
            clear hHeld2
            try simp only [Act.put, List.setIfInBounds_toArray, List.set_cons_zero, List.set_cons_succ]
            refine wpAnyH_ready (rs := [3]) (by kernel_rfl) (by simp) ?_
            refine AllReadyH.cons (o := ⟨some 19, _, _, _, _, _⟩) rfl (fun K hK => ?_) AllReadyH.nil
            go_simp
            refine (HXk.out _ HB.out.1).mono ?_
            rintro e Z17 ⟨kcs, rfl, hv, hb⟩
            have HEk := Lib.hid (HB.out.res hv)
            clear hv
            replace HEa := Lib.hid (HEa.out.bel hb)
            replace HB := Lib.hid (HB.out.bel hb)
            clear hb
            refine hK.out _ _ (trivial) (fun hHeld2 => ?_)
            clear hK K hHeld
            have hHeld := hHeld2
            clear hHeld2
            try simp only [Act.put, List.setIfInBounds_toArray, List.set_cons_zero, List.set_cons_succ]
            refine wpAnyH_ready (rs := [5]) (by kernel_rfl) (by simp) ?_
            refine AllReadyH.cons (o := ⟨some 21, _, _, _, _, _⟩) rfl (fun K hK => ?_) AllReadyH.nil
            go_simp
            refine (HXv.out _ HB.out.1).mono ?_
            rintro e Z18 ⟨vcs, rfl, hv, hb⟩
            have HEv := Lib.hid (HB.out.res hv)
            clear hv
            replace HEa := Lib.hid (HEa.out.bel hb)
            replace HEk := Lib.hid (HEk.out.bel hb)
            replace HB := Lib.hid (HB.out.bel hb)
            clear hb
            refine hK.out _ _ (trivial) (fun hHeld2 => ?_)
            clear hK K hHeld
            have hHeld := hHeld2
            clear hHeld2
            try simp only [Act.put, List.setIfInBounds_toArray, List.set_cons_zero, List.set_cons_succ]
            refine wpAnyH_lis (l' := #[true, true, true, true, true, true, false, false, false]) (by kernel_rfl) ?_
            exact HL _ _ _ _ ⟨HB, HEa, HEk, HEv⟩
          · obtain ⟨c8, f8, l8⟩ := HB.out.k.rules
            go_simp
            refine hK.out _ _ (trivial) (fun hHeld2 => ?_)
            clear hK K hHeld c8 f8 l8
            have hHeld := hHeld2
            clear hHeld2
            try simp only [Act.put, List.setIfInBounds_toArray, List.set_cons_zero, List.set_cons_succ]
            refine wpAnyH_ready (rs := [1]) (by kernel_rfl) (by simp) ?_
            refine AllReadyH.cons (o := ⟨some 17, _, _, _, _, _⟩) rfl (fun K hK => ?_) AllReadyH.nil
            go_simp
            refine (HXa.out _ HB.out.1).mono ?_
            rintro e Z19 ⟨acs, rfl, hv, hb⟩
            have HEa := Lib.hid (HB.out.res hv)
            clear hv
            replace HB := Lib.hid (HB.out.bel hb)
            clear hb
            refine hK.out _ _ (trivial) (fun hHeld2 => ?_)
            clear hK K hHeld
            have hHeld := hHeld2
            clear hHeld2
            try simp only [Act.put, List.setIfInBounds_toArray, List.set_cons_zero, List.set_cons_succ]
            refine wpAnyH_ready (rs := [3]) (by kernel_rfl) (by simp) ?_
            refine AllReadyH.cons (o := ⟨some 19, _, _, _, _, _⟩) rfl (fun K hK => ?_) AllReadyH.nil
            go_simp
            refine (HXk.out _ HB.out.1).mono ?_
            rintro e Z20 ⟨kcs, rfl, hv, hb⟩
            have HEk := Lib.hid (HB.out.res hv)
            clear hv
            replace HEa := Lib.hid (HEa.out.bel hb)
            replace HB := Lib.hid (HB.out.bel hb)
            clear hb
            refine hK.out _ _ (trivial) (fun hHeld2 => ?_)
            clear hK K hHeld
            have hHeld := hHeld2
            clear hHeld2
            try simp only [Act.put, List.setIfInBounds_toArray, List.set_cons_zero, List.set_cons_succ]
            refine wpAnyH_ready (rs := [5]) (by kernel_rfl) (by simp) ?_
            refine AllReadyH.cons (o := ⟨some 21, _, _, _, _, _⟩) rfl (fun K hK => ?_) AllReadyH.nil
            go_simp
            refine (HXv.out _ HB.out.1).mono ?_
            rintro e Z21 ⟨vcs, rfl, hv, hb⟩
            have HEv := Lib.hid (HB.out.res hv)
            clear hv
            replace HEa := Lib.hid (HEa.out.bel hb)
            replace HEk := Lib.hid (HEk.out.bel hb)
            replace HB := Lib.hid (HB.out.bel hb)
            clear hb
            refine hK.out _ _ (trivial) (fun hHeld2 => ?_)
            clear hK K hHeld
            have hHeld := hHeld2
            clear hHeld2
            try simp only [Act.put, List.setIfInBounds_toArray, List.set_cons_zero, List.set_cons_succ]
            refine wpAnyH_lis (l' := #[true, true, true, true, true, true, false, false, false]) (by kernel_rfl) ?_
            exact HL _ _ _ _ ⟨HB, HEa, HEk, HEv⟩
      · obtain ⟨c8, f8, l8⟩ := HB.out.k.rules
        go_simp
        refine hK.out _ _ (trivial) (fun hHeld2 => ?_)
        clear hK K hHeld c8 f8 l8
        have hHeld := hHeld2
        clear hHeld2
        try simp only [Act.put, List.setIfInBounds_toArray, List.set_cons_zero, List.set_cons_succ]
        refine wpAnyH_ready (rs := [0, 4]) (by kernel_rfl) (by simp) ?_
        refine AllReadyH.cons (o := ⟨some 16, _, _, _, _, _⟩) rfl (fun K hK => ?_) (AllReadyH.cons (o := ⟨some 20, _, _, _, _, _⟩) rfl (fun K hK => ?_) AllReadyH.nil)
        · obtain ⟨c8, f8, l8⟩ := HB.out.a.rules
          go_simp
          refine hK.out _ _ (trivial) (fun hHeld2 => ?_)
          clear hK K hHeld c8 f8 l8
          have hHeld := hHeld2
          clear hHeld2
          try simp only [Act.put, List.setIfInBounds_toArray, List.set_cons_zero, List.set_cons_succ]
          refine wpAnyH_ready (rs := [1, 4]) (by kernel_rfl) (by simp) ?_
          refine AllReadyH.cons (o := ⟨some 17, _, _, _, _, _⟩) rfl (fun K hK => ?_) (AllReadyH.cons (o := ⟨some 20, _, _, _, _, _⟩) rfl (fun K hK => ?_) AllReadyH.nil)
          · go_simp
            refine (HXa.out _ HB.out.1).mono ?_
            rintro e Z22 ⟨acs, rfl, hv, hb⟩
            have HEa := Lib.hid (HB.out.res hv)
            clear hv
            replace HB := Lib.hid (HB.out.bel hb)
            clear hb
            refine hK.out _ _ (trivial) (fun hHeld2 => ?_)
            clear hK K hHeld
            have hHeld := hHeld2
            clear hHeld2
            try simp only [Act.put, List.setIfInBounds_toArray, List.set_cons_zero, List.set_cons_succ]
            refine wpAnyH_ready (rs := [3, 4]) (by kernel_rfl) (by simp) ?_
            refine AllReadyH.cons (o := ⟨some 19, _, _, _, _, _⟩) rfl (fun K hK => ?_) (AllReadyH.cons (o := ⟨some 20, _, _, _, _, _⟩) rfl (fun K hK => ?_) AllReadyH.nil)
            · go_simp
              refine (HXk.out _ HB.out.1).mono ?_
              rintro e Z23 ⟨kcs, rfl, hv, hb⟩
              have HEk := Lib.hid (HB.out.res hv)
              clear hv
              replace HEa := Lib.hid (HEa.out.bel hb)
              replace HB := Lib.hid (HB.out.bel hb)
              clear hb
              refine hK.out _ _ (trivial) (fun hHeld2 => ?_)
              clear hK K hHeld
              have hHeld := hHeld2
              clear hHeld2
              try simp only [Act.put, List.setIfInBounds_toArray, List.set_cons_zero, List.set_cons_succ]
              refine wpAnyH_ready (rs := [4]) (by kernel_rfl) (by simp) ?_
              refine AllReadyH.cons (o := ⟨some 20, _, _, _, _, _⟩) rfl (fun K hK => ?_) AllReadyH.nil
              obtain ⟨c8, f8, l8⟩ := HB.out.v.rules
              go_simp
              refine hK.out _ _ (trivial) (fun hHeld2 => ?_)
              clear hK K hHeld c8 f8 l8
              have hHeld := hHeld2
              clear hHeld2
              try simp only [Act.put, List.setIfInBounds_toArray, List.set_cons_zero, List.set_cons_succ]
              refine wpAnyH_ready (rs := [5]) (by kernel_rfl) (by simp) ?_
              refine AllReadyH.cons (o := ⟨some 21, _, _, _, _, _⟩) rfl (fun K hK => ?_) AllReadyH.nil
              go_simp
              refine (HXv.out _ HB.out.1).mono ?_
              rintro e Z24 ⟨vcs, rfl, hv, hb⟩
              have HEv := Lib.hid (HB.out.res hv)
              clear hv
              replace HEa := Lib.hid (HEa.out.bel hb)
              replace HEk := Lib.hid (HEk.out.bel hb)
              replace HB := Lib.hid (HB.out.bel hb)
              clear hb
              refine hK.out _ _ (trivial) (fun hHeld2 => ?_)
              clear hK K hHeld
              have hHeld := hHeld2
              clear hHeld2
              try simp only [Act.put, List.setIfInBounds_toArray, List.set_cons_zero, List.set_cons_succ]
              refine wpAnyH_lis (l' := #[true, true, true, true, true, true, false, false, false]) (by kernel_rfl) ?_
              exact HL _ _ _ _ ⟨HB, HEa, HEk, HEv⟩
            · obtain ⟨c8, f8, l8⟩ := HB.out.v.rules
              go_simp
              refine hK.out _ _ (trivial) (fun hHeld2 => ?_)
              clear hK K hHeld c8 f8 l8
              have hHeld := hHeld2
              clear hHeld2
              try simp only [Act.put, List.setIfInBounds_toArray, List.set_cons_zero, List.set_cons_succ]
              refine wpAnyH_ready (rs := [3]) (by kernel_rfl) (by simp) ?_
              refine AllReadyH.cons (o := ⟨some 19, _, _, _, _, _⟩) rfl (fun K hK => ?_) AllReadyH.nil
              go_simp
              refine (HXk.out _ HB.out.1).mono ?_
              rintro e Z25 ⟨kcs, rfl, hv, hb⟩
              have HEk := Lib.hid (HB.out.res hv)
              clear hv
              replace HEa := Lib.hid (HEa.out.bel hb)
              replace HB := Lib.hid (HB.out.bel hb)
              clear hb
              refine hK.out _ _ (trivial) (fun hHeld2 => ?_)
              clear hK K hHeld
              have hHeld := hHeld2
              clear hHeld2
              try simp only [Act.put, List.setIfInBounds_toArray, List.set_cons_zero, List.set_cons_succ]
              refine wpAnyH_ready (rs := [5]) (by kernel_rfl) (by simp) ?_
              refine AllReadyH.cons (o := ⟨some 21, _, _, _, _, _⟩) rfl (fun K hK => ?_) AllReadyH.nil
              go_simp
              refine (HXv.out _ HB.out.1).mono ?_
              rintro e Z26 ⟨vcs, rfl, hv, hb⟩
              have HEv := Lib.hid (HB.out.res hv)
              clear hv
              replace HEa := Lib.hid (HEa.out.bel hb)
              replace HEk := Lib.hid (HEk.out.bel hb)
              replace HB := Lib.hid (HB.out.bel hb)
              clear hb
              refine hK.out _ _ (trivial) (fun hHeld2 => ?_)
              clear hK K hHeld
              have hHeld := hHeld2
              clear hHeld2
              try simp only [Act.put, List.setIfInBounds_toArray, List.set_cons_zero, List.set_cons_succ]
              refine wpAnyH_lis (l' := #[true, true, true, true, true, true, false, false, false]) (by kernel_rfl) ?_
              exact HL _ _ _ _ ⟨HB, HEa, HEk, HEv⟩
          · obtain ⟨c8, f8, l8⟩ := HB.out.v.rules
            go_simp
            refine hK.out _ _ (trivial) (fun hHeld2 => ?_)
            clear hK K hHeld c8 f8 l8
            have hHeld := hHeld2
            clear hHeld2
            try simp only [Act.put, List.setIfInBounds_toArray, List.set_cons_zero, List.set_cons_succ]
            refine wpAnyH_ready (rs := [1]) (by kernel_rfl) (by simp) ?_
            refine AllReadyH.cons (o := ⟨some 17, _, _, _, _, _⟩) rfl (fun K hK => ?_) AllReadyH.nil
            go_simp
            refine (HXa.out _ HB.out.1).mono ?_
            rintro e Z27 ⟨acs, rfl, hv, hb⟩
            have HEa := Lib.hid (HB.out.res hv)
            clear hv
            replace HB := Lib.hid (HB.out.bel hb)
            clear hb
            refine hK.out _ _ (trivial) (fun hHeld2 => ?_)
            clear hK K hHeld
            have hHeld := hHeld2
            clear hHeld2
            try simp only [Act.put, List.setIfInBounds_toArray, List.set_cons_zero, List.set_cons_succ]
            refine wpAnyH_ready (rs := [3]) (by kernel_rfl) (by simp) ?_
            refine AllReadyH.cons (o := ⟨some 19, _, _, _, _, _⟩) rfl (fun K hK => ?_) AllReadyH.nil
            go_simp
            refine (HXk.out _ HB.out.1).mono ?_
            rintro e Z28 ⟨kcs, rfl, hv, hb⟩
            have HEk := Lib.hid (HB.out.res hv)
            clear hv
            replace HEa := Lib.hid (HEa.out.bel hb)
            replace HB := Lib.hid (HB.out.bel hb)
            clear hb
            refine hK.out _ _ (trivial) (fun hHeld2 => ?_)
            clear hK K hHeld
            have hHeld := hHeld2
            clear hHeld2
            try simp only [Act.put, List.setIfInBounds_toArray, List.set_cons_zero, List.set_cons_succ]
            refine wpAnyH_ready (rs := [5]) (by kernel_rfl) (by simp) ?_
            refine AllReadyH.cons (o := ⟨some 21, _, _, _, _, _⟩) rfl (fun K hK => ?_) AllReadyH.nil
            go_simp
            refine (HXv.out _ HB.out.1).mono ?_
            rintro e Z29 ⟨vcs, rfl, hv, hb⟩
            have HEv := Lib.hid (HB.out.res hv)
            clear hv
            replace HEa := Lib.hid (HEa.out.bel hb)
            replace HEk := Lib.hid (HEk.out.bel hb)
            replace HB := Lib.hid (HB.out.bel hb)
            clear hb
            refine hK.out _ _ (trivial) (fun hHeld2 => ?_)
            clear hK K hHeld
            have hHeld := hHeld2
            clear hHeld2
            try simp only [Act.put, List.setIfInBounds_toArray, List.set_cons_zero, List.set_cons_succ]
            refine wpAnyH_lis (l' := #[true, true, true, true, true, true, false, false, false]) (by kernel_rfl) ?_
            exact HL _ _ _ _ ⟨HB, HEa, HEk, HEv⟩
        · obtain ⟨c8, f8, l8⟩ := HB.out.v.rules
          go_simp
          refine hK.out _ _ (trivial) (fun hHeld2 => ?_)
          clear hK K hHeld c8 f8 l8
          have hHeld := hHeld2
          clear hHeld2
          try simp only [Act.put, List.setIfInBounds_toArray, List.set_cons_zero, List.set_cons_succ]
          refine wpAnyH_ready (rs := [0]) (by kernel_rfl) (by simp) ?_
          refine AllReadyH.cons (o := ⟨some 16, _, _, _, _, _⟩) rfl (fun K hK => ?_) AllReadyH.nil
          obtain ⟨c8, f8, l8⟩ := HB.out.a.rules
          go_simp
          refine hK.out _ _ (trivial) (fun hHeld2 => ?_)
          clear hK K hHeld c8 f8 l8
          have hHeld := hHeld2
          clear hHeld2
          try simp only [Act.put, List.setIfInBounds_toArray, List.set_cons_zero, List.set_cons_succ]
          refine wpAnyH_ready (rs := [1]) (by kernel_rfl) (by simp) ?_
          refine AllReadyH.cons (o := ⟨some 17, _, _, _, _, _⟩) rfl (fun K hK => ?_) AllReadyH.nil
          go_simp
          refine (HXa.out _ HB.out.1).mono ?_
          rintro e Z30 ⟨acs, rfl, hv, hb⟩
          have HEa := Lib.hid (HB.out.res hv)
          clear hv
          replace HB := Lib.hid (HB.out.bel hb)
          clear hb
          refine hK.out _ _ (trivial) (fun hHeld2 => ?_)
          clear hK K hHeld
          have hHeld := hHeld2
          clear hHeld2
          try simp only [Act.put, List.setIfInBounds_toArray, List.set_cons_zero, List.set_cons_succ]
          refine wpAnyH_ready (rs := [3]) (by kernel_rfl) (by simp) ?_
          refine AllReadyH.cons (o := ⟨some 19, _, _, _, _, _⟩) rfl (fun K hK => ?_) AllReadyH.nil
          go_simp
          refine (HXk.out _ HB.out.1).mono ?_
          rintro e Z31 ⟨kcs, rfl, hv, hb⟩
          have HEk := Lib.hid (HB.out.res hv)
          clear hv
          replace HEa := Lib.hid (HEa.out.bel hb)
          replace HB := Lib.hid (HB.out.bel hb)
          clear hb
          refine hK.out _ _ (trivial) (fun hHeld2 => ?_)
          clear hK K hHeld
          have hHeld := hHeld2
          clear hHeld2
          try simp only [Act.put, List.setIfInBounds_toArray, List.set_cons_zero, List.set_cons_succ]
          refine wpAnyH_ready (rs := [5]) (by kernel_rfl) (by simp) ?_
          refine AllReadyH.cons (o := ⟨some 21, _, _, _, _, _⟩) rfl (fun K hK => ?_) AllReadyH.nil
          go_simp
          refine (HXv.out _ HB.out.1).mono ?_
          rintro e Z32 ⟨vcs, rfl, hv, hb⟩
          have HEv := Lib.hid (HB.out.res hv)
          clear hv
          replace HEa := Lib.hid (HEa.out.bel hb)
          replace HEk := Lib.hid (HEk.out.bel hb)
          replace HB := Lib.hid (HB.out.bel hb)
          clear hb
          refine hK.out _ _ (trivial) (fun hHeld2 => ?_)
          clear hK K hHeld
          have hHeld := hHeld2
          clear hHeld2
          try simp only [Act.put, List.setIfInBounds_toArray, List.set_cons_zero, List.set_cons_succ]
          refine wpAnyH_lis (l' := #[true, true, true, true, true, true, false, false, false]) (by kernel_rfl) ?_
          exact HL _ _ _ _ ⟨HB, HEa, HEk, HEv⟩
      · obtain ⟨c8, f8, l8⟩ := HB.out.v.rules
        go_simp
        refine hK.out _ _ (trivial) (fun hHeld2 => ?_)
        clear hK K hHeld c8 f8 l8
        have hHeld := hHeld2
        clear hHeld2
        try simp only [Act.put, List.setIfInBounds_toArray, List.set_cons_zero, List.set_cons_succ]
        refine wpAnyH_ready (rs := [0, 2]) (by kernel_rfl) (by simp) ?_
        refine AllReadyH.cons (o := ⟨some 16, _, _, _, _, _⟩) rfl (fun K hK => ?_) (AllReadyH.cons (o := ⟨some 18, _, _, _, _, _⟩) rfl (fun K hK => ?_) AllReadyH.nil)
        · obtain ⟨c8, f8, l8⟩ := HB.out.a.rules
          go_simp
          refine hK.out _ _ (trivial) (fun hHeld2 => ?_)
          clear hK K hHeld c8 f8 l8
          have hHeld := hHeld2
          clear hHeld2
          try simp only [Act.put, List.setIfInBounds_toArray, List.set_cons_zero, List.set_cons_succ]
          refine wpAnyH_ready (rs := [1, 2]) (by kernel_rfl) (by simp) ?_
          refine AllReadyH.cons (o := ⟨some 17, _, _, _, _, _⟩) rfl (fun K hK => ?_) (AllReadyH.cons (o := ⟨some 18, _, _, _, _, _⟩) rfl (fun K hK => ?_) AllReadyH.nil)
          · go_simp
            refine (HXa.out _ HB.out.1).mono ?_
            rintro e Z33 ⟨acs, rfl, hv, hb⟩
            have HEa := Lib.hid (HB.out.res hv)
            clear hv
            replace HB := Lib.hid (HB.out.bel hb)
            clear hb
            refine hK.out _ _ (trivial) (fun hHeld2 => ?_)
            clear hK K hHeld
            have hHeld := hHeld2
            clear hHeld2
            try simp only [Act.put, List.setIfInBounds_toArray, List.set_cons_zero, List.set_cons_succ]
            refine wpAnyH_ready (rs := [2]) (by kernel_rfl) (by simp) ?_
            refine AllReadyH.cons (o := ⟨some 18, _, _, _, _, _⟩) rfl (fun K hK => ?_) AllReadyH.nil
            obtain ⟨c8, f8, l8⟩ := HB.out.k.rules
            go_simp
            refine hK.out _ _ (trivial) (fun hHeld2 => ?_)
            clear hK K hHeld c8 f8 l8
            have hHeld := hHeld2
            clear hHeld2
            try simp only [Act.put, List.setIfInBounds_toArray, List.set_cons_zero, List.set_cons_succ]
            refine wpAnyH_ready (rs := [3]) (by kernel_rfl) (by simp) ?_
            refine AllReadyH.cons (o := ⟨some 19, _, _, _, _, _⟩) rfl (fun K hK => ?_) AllReadyH.nil
            go_simp
            refine (HXk.out _ HB.out.1).mono ?_
            rintro e Z34 ⟨kcs, rfl, hv, hb⟩
            have HEk := Lib.hid (HB.out.res hv)
            clear hv
            replace HEa := Lib.hid (HEa.out.bel hb)
            replace HB := Lib.hid (HB.out.bel hb)
            clear hb
            refine hK.out _ _ (trivial) (fun hHeld2 => ?_)
            clear hK K hHeld
            have hHeld := hHeld2
            clear hHeld2
            try simp only [Act.put, List.setIfInBounds_toArray, List.set_cons_zero, List.set_cons_succ]
            refine wpAnyH_ready (rs := [5]) (by kernel_rfl) (by simp) ?_
            refine AllReadyH.cons (o := ⟨some 21, _, _, _, _, _⟩) rfl (fun K hK => ?_) AllReadyH.nil
            go_simp
            refine (HXv.out _ HB.out.1).mono ?_
            rintro e Z35 ⟨vcs, rfl, hv, hb⟩
            have HEv := Lib.hid (HB.out.res hv)
            clear hv
            replace HEa := Lib.hid (HEa.out.bel hb)
            replace HEk := Lib.hid (HEk.out.bel hb)
            replace HB := Lib.hid (HB.out.bel hb)
            clear hb
            refine hK.out _ _ (trivial) (fun hHeld2 => ?_)
            clear hK K hHeld
            have hHeld := hHeld2
            clear hHeld2
            try simp only [Act.put, List.setIfInBounds_toArray, List.set_cons_zero, List.set_cons_succ]
            refine wpAnyH_lis (l' := #[true, true, true, true, true, true, false, false, false]) (by kernel_rfl) ?_
            exact HL _ _ _ _ ⟨HB, HEa, HEk, HEv⟩
          · obtain ⟨c8, f8, l8⟩ := HB.out.k.rules
            go_simp
            refine hK.out _ _ (trivial) (fun hHeld2 => ?_)
            clear hK K hHeld c8 f8 l8
            have hHeld := hHeld2
            clear hHeld2
            try simp only [Act.put, List.setIfInBounds_toArray, List.set_cons_zero, List.set_cons_succ]
            refine wpAnyH_ready (rs := [1]) (by kernel_rfl) (by simp) ?_
            refine AllReadyH.cons (o := ⟨some 17, _, _, _, _, _⟩) rfl (fun K hK => ?_) AllReadyH.nil
            go_simp
            refine (HXa.out _ HB.out.1).mono ?_
            rintro e Z36 ⟨acs, rfl, hv, hb⟩
            have HEa := Lib.hid (HB.out.res hv)
            clear hv
            replace HB := Lib.hid (HB.out.bel hb)
            clear hb
            refine hK.out _ _ (trivial) (fun hHeld2 => ?_)
            clear hK K hHeld
            have hHeld := hHeld2
            clear hHeld2
            try simp only [Act.put, List.setIfInBounds_toArray, List.set_cons_zero, List.set_cons_succ]
            refine wpAnyH_ready (rs := [3]) (by kernel_rfl) (by simp) ?_
            refine AllReadyH.cons (o := ⟨some 19, _, _, _, _, _⟩) rfl (fun K hK => ?_) AllReadyH.nil
            go_simp
            refine (HXk.out _ HB.out.1).mono ?_
            rintro e Z37 ⟨kcs, rfl, hv, hb⟩
            have HEk := Lib.hid (HB.out.res hv)
            clear hv
            replace HEa := Lib.hid (HEa.out.bel hb)
            replace HB := Lib.hid (HB.out.bel hb)
            clear hb
            refine hK.out _ _ (trivial) (fun hHeld2 => ?_)
            clear hK K hHeld
            have hHeld := hHeld2
            clear hHeld2
            try simp only [Act.put, List.setIfInBounds_toArray, List.set_cons_zero, List.set_cons_succ]
            refine wpAnyH_ready (rs := [5]) (by kernel_rfl) (by simp) ?_
            refine AllReadyH.cons (o := ⟨some 21, _, _, _, _, _⟩) rfl (fun K hK => ?_) AllReadyH.nil
            go_simp
            refine (HXv.out _ HB.out.1).mono ?_
            rintro e Z38 ⟨vcs, rfl, hv, hb⟩
            have HEv := Lib.hid (HB.out.res hv)
            clear hv
            replace HEa := Lib.hid (HEa.out.bel hb)
            replace HEk := Lib.hid (HEk.out.bel hb)
            replace HB := Lib.hid (HB.out.bel hb)
            clear hb
            refine hK.out _ _ (trivial) (fun hHeld2 => ?_)
            clear hK K hHeld
            have hHeld := hHeld2
            clear hHeld2
            try simp only [Act.put, List.setIfInBounds_toArray, List.set_cons_zero, List.set_cons_succ]
            refine wpAnyH_lis (l' := #[true, true, true, true, true, true, false, false, false]) (by kernel_rfl) ?_
            exact HL _ _ _ _ ⟨HB, HEa, HEk, HEv⟩
        · obtain ⟨c8, f8, l8⟩ := HB.out.k.rules
          go_simp
          refine hK.out _ _ (trivial) (fun hHeld2 => ?_)
          clear hK K hHeld c8 f8 l8
          have hHeld := hHeld2
          clear hHeld2
          try simp only [Act.put, List.setIfInBounds_toArray, List.set_cons_zero, List.set_cons_succ]
          refine wpAnyH_ready (rs := [0]) (by kernel_rfl) (by simp) ?_
          refine AllReadyH.cons (o := ⟨some 16, _, _, _, _, _⟩) rfl (fun K hK => ?_) AllReadyH.nil
          obtain ⟨c8, f8, l8⟩ := HB.out.a.rules
          go_simp
          refine hK.out _ _ (trivial) (fun hHeld2 => ?_)
          clear hK K hHeld c8 f8 l8
          have hHeld := hHeld2
          clear hHeld2
          try simp only [Act.put, List.setIfInBounds_toArray, List.set_cons_zero, List.set_cons_succ]
          refine wpAnyH_ready (rs := [1]) (by kernel_rfl) (by simp) ?_
          refine AllReadyH.cons (o := ⟨some 17, _, _, _, _, _⟩) rfl (fun K hK => ?_) AllReadyH.nil
          go_simp
          refine (HXa.out _ HB.out.1).mono ?_
          rintro e Z39 ⟨acs, rfl, hv, hb⟩
          have HEa := Lib.hid (HB.out.res hv)
          clear hv
          replace HB := Lib.hid (HB.out.bel hb)
          clear hb
          refine hK.out _ _ (trivial) (fun hHeld2 => ?_)
          clear hK K hHeld
          have hHeld := hHeld2
          clear hHeld2
          try simp only [Act.put, List.setIfInBounds_toArray, List.set_cons_zero, List.set_cons_succ]
          refine wpAnyH_ready (rs := [3]) (by kernel_rfl) (by simp) ?_
          refine AllReadyH.cons (o := ⟨some 19, _, _, _, _, _⟩) rfl (fun K hK => ?_) AllReadyH.nil
          go_simp
          refine (HXk.out _ HB.out.1).mono ?_
          rintro e Z40 ⟨kcs, rfl, hv, hb⟩
          have HEk := Lib.hid (HB.out.res hv)
          clear hv
          replace HEa := Lib.hid (HEa.out.bel hb)
          replace HB := Lib.hid (HB.out.bel hb)
          clear hb
          refine hK.out _ _ (trivial) (fun hHeld2 => ?_)
          clear hK K hHeld
          have hHeld := hHeld2
          clear hHeld2
          try simp only [Act.put, List.setIfInBounds_toArray, List.set_cons_zero, List.set_cons_succ]
          refine wpAnyH_ready (rs := [5]) (by kernel_rfl) (by simp) ?_
          refine AllReadyH.cons (o := ⟨some 21, _, _, _, _, _⟩) rfl (fun K hK => ?_) AllReadyH.nil
          go_simp
          refine (HXv.out _ HB.out.1).mono ?_
          rintro e Z41 ⟨vcs, rfl, hv, hb⟩
          have HEv := Lib.hid (HB.out.res hv)
          clear hv
          replace HEa := Lib.hid (HEa.out.bel hb)
          replace HEk := Lib.hid (HEk.out.bel hb)
          replace HB := Lib.hid (HB.out.bel hb)
          clear hb
          refine hK.out _ _ (trivial) (fun hHeld2 => ?_)
          clear hK K hHeld
          have hHeld := hHeld2
          clear hHeld2
          try simp only [Act.put, List.setIfInBounds_toArray, List.set_cons_zero, List.set_cons_succ]
          refine wpAnyH_lis (l' := #[true, true, true, true, true, true, false, false, false]) (by kernel_rfl) ?_
          exact HL _ _ _ _ ⟨HB, HEa, HEk, HEv⟩
    case hleaf =>
      rintro Z acs kcs vcs ⟨HB, HEa, HEk, HEv⟩
      have hHeld := trivial
      refine wpAnyH_ready (rs := [6]) (by kernel_rfl) (by simp) ?_
      refine AllReadyH.cons (o := ⟨none, _, _, _, _, _⟩) rfl (fun K hK => ?_) AllReadyH.nil
      rw [if_pos (by kernel_rfl)]
      refine wp_store_mid 28 (.tmp 4) (.tmp 17) rfl (w.heap.size) 0 acs.toArray rfl rfl (HB.out.tha HEa.out.len) (sz8 HEa.out.len) (all1 HEa.out.one) ?_
      have HBb := Lib.hid (HB.out.sta acs HEa.out.len)
      have HEab := Lib.hid (stE (i := 0) (by omega) acs HEa.out)
      have HEkb := Lib.hid (stE (i := 0) (by omega) acs HEk.out)
      have HEvb := Lib.hid (stE (i := 0) (by omega) acs HEv.out)
      refine hK.out _ _ (trivial) (fun hHeld2 => ?_)
      clear hK K hHeld
      have hHeld := hHeld2
      clear hHeld2
      try simp only [Act.put, List.setIfInBounds_toArray, List.set_cons_zero, List.set_cons_succ]
      clear HB HEa HEk HEv
      refine wpAnyH_worldM (fun Y hY => ?_)
      have HB : Hid (RB w Y _ _ _ _) := Lib.hid (by rw [hY]; exact HBb.out)
      have HEa : Hid (ER Y (RG w) acs a) := Lib.hid (by rw [hY]; exact HEab.out)
      have HEk : Hid (ER Y (RG w) kcs ke) := Lib.hid (by rw [hY]; exact HEkb.out)
      have HEv : Hid (ER Y (RG w) vcs ve) := Lib.hid (by rw [hY]; exact HEvb.out)
      clear hY HBb HEab HEkb HEvb
      refine wpAnyH_ready (rs := [7]) (by kernel_rfl) (by simp) ?_
      refine AllReadyH.cons (o := ⟨none, _, _, _, _, _⟩) rfl (fun K hK => ?_) AllReadyH.nil
      rw [if_pos (by kernel_rfl)]
      refine wp_store_mid 28 (.tmp 5) (.tmp 19) rfl (w.heap.size + 1) 0 kcs.toArray rfl rfl (HB.out.thk HEk.out.len) (sz8 HEk.out.len) (all1 HEk.out.one) ?_
      have HBb := Lib.hid (HB.out.stk kcs HEk.out.len)
      have HEab := Lib.hid (stE (i := 1) (by omega) kcs HEa.out)
      have HEkb := Lib.hid (stE (i := 1) (by omega) kcs HEk.out)
      have HEvb := Lib.hid (stE (i := 1) (by omega) kcs HEv.out)
      refine hK.out _ _ (trivial) (fun hHeld2 => ?_)
      clear hK K hHeld
      have hHeld := hHeld2
      clear hHeld2
      try simp only [Act.put, List.setIfInBounds_toArray, List.set_cons_zero, List.set_cons_succ]
      clear HB HEa HEk HEv
      refine wpAnyH_worldM (fun Y hY => ?_)
      have HB : Hid (RB w Y _ _ _ _) := Lib.hid (by rw [hY]; exact HBb.out)
      have HEa : Hid (ER Y (RG w) acs a) := Lib.hid (by rw [hY]; exact HEab.out)
      have HEk : Hid (ER Y (RG w) kcs ke) := Lib.hid (by rw [hY]; exact HEkb.out)
      have HEv : Hid (ER Y (RG w) vcs ve) := Lib.hid (by rw [hY]; exact HEvb.out)
      clear hY HBb HEab HEkb HEvb
      refine wpAnyH_ready (rs := [8]) (by kernel_rfl) (by simp) ?_
      refine AllReadyH.cons (o := ⟨none, _, _, _, _, _⟩) rfl (fun K hK => ?_) AllReadyH.nil
      rw [if_pos (by kernel_rfl)]
      refine wp_store_mid 28 (.tmp 6) (.tmp 21) rfl (w.heap.size + 2) 0 vcs.toArray rfl rfl (HB.out.thv HEv.out.len) (sz8 HEv.out.len) (all1 HEv.out.one) ?_
      have HBb := Lib.hid (HB.out.stv vcs HEv.out.len)
      have HEab := Lib.hid (stE (i := 2) (by omega) vcs HEa.out)
      have HEkb := Lib.hid (stE (i := 2) (by omega) vcs HEk.out)
      have HEvb := Lib.hid (stE (i := 2) (by omega) vcs HEv.out)
      refine hK.out _ _ (trivial) (fun hHeld2 => ?_)
      clear hK K hHeld
      have hHeld := hHeld2
      clear hHeld2
      try simp only [Act.put, List.setIfInBounds_toArray, List.set_cons_zero, List.set_cons_succ]
      clear HB HEa HEk HEv
      refine wpAnyH_worldM (fun Y hY => ?_)
      have HB : Hid (RB w Y _ _ _ _) := Lib.hid (by rw [hY]; exact HBb.out)
      have HEa : Hid (ER Y (RG w) acs a) := Lib.hid (by rw [hY]; exact HEab.out)
      have HEk : Hid (ER Y (RG w) kcs ke) := Lib.hid (by rw [hY]; exact HEkb.out)
      have HEv : Hid (ER Y (RG w) vcs ve) := Lib.hid (by rw [hY]; exact HEvb.out)
      clear hY HBb HEab HEkb HEvb
      refine wpAnyH_done (by kernel_rfl) ?_ _
      go_wp2
      go_meet
      case rel => exact ⟨acs, kcs, vcs, _, rfl, HB, HEa, HEk, HEv⟩
  case rest =>
    obtain ⟨acs, kcs, vcs, W3, rfl, HRB, HEa, HEk, HEv⟩ := hcut
    have HWQ := Lib.hid HRB.out.1
    have HBa := Lib.hid HRB.out.a
    have HBk := Lib.hid HRB.out.k
    have HBv := Lib.hid HRB.out.v
    have HBd := Lib.hid HRB.out.d
    clear HRB
    obtain ⟨ka9, pa9, na9, sa9, Aa9, naa9, caa9, Ba9, nba9, cba9, za9, Ca9, nca9, cca9, rfl⟩ := HEa.out.form
    obtain ⟨kk9, pk9, nk9, sk9, Ak9, nak9, cak9, Bk9, nbk9, cbk9, zk9, Ck9, nck9, cck9, rfl⟩ := HEk.out.form
    obtain ⟨kv9, pv9, nv9, sv9, Av9, nav9, cav9, Bv9, nbv9, cbv9, zv9, Cv9, ncv9, ccv9, rfl⟩ := HEv.out.form
    clear HXa HXk HXv
    have HK4 := Lib.hid (fun (W : World) (h : Below W3.heap.size W3 W) => show (fun W' => Blk W' (w.heap.size) 28 #[.int .i64 ka9, .int .i64 pa9, .int .i64 na9, .string sa9, .slice Aa9 naa9 caa9, .slice Ba9 nba9 cba9, .string za9, .slice Ca9 nca9 cca9] ∧ Blk W' (w.heap.size + 1) 28 #[.int .i64 kk9, .int .i64 pk9, .int .i64 nk9, .string sk9, .slice Ak9 nak9 cak9, .slice Bk9 nbk9 cbk9, .string zk9, .slice Ck9 nck9 cck9] ∧ Blk W' (w.heap.size + 2) 28 #[.int .i64 kv9, .int .i64 pv9, .int .i64 nv9, .string sv9, .slice Av9 nav9 cav9, .slice Bv9 nbv9 cbv9, .string zv9, .slice Cv9 ncv9 ccv9] ∧ Blk W' (w.heap.size + 3) 25 #[.int .i64 kd, .int .i64 nd, .string sd, .slice Ad nad cad, .slice Bd nbd cbd]) W from ⟨(show Blk W3 _ _ #[.int .i64 ka9, .int .i64 pa9, .int .i64 na9, .string sa9, .slice Aa9 naa9 caa9, .slice Ba9 nba9 cba9, .string za9, .slice Ca9 nca9 cca9] from HBa.out).keep h, (show Blk W3 _ _ #[.int .i64 kk9, .int .i64 pk9, .int .i64 nk9, .string sk9, .slice Ak9 nak9 cak9, .slice Bk9 nbk9 cbk9, .string zk9, .slice Ck9 nck9 cck9] from HBk.out).keep h, (show Blk W3 _ _ #[.int .i64 kv9, .int .i64 pv9, .int .i64 nv9, .string sv9, .slice Av9 nav9 cav9, .slice Bv9 nbv9 cbv9, .string zv9, .slice Cv9 ncv9 ccv9] from HBv.out).keep h, HBd.out.keep h⟩)
    have HER := Lib.hid (fun (W : World) (h : Below W3.heap.size W3 W) => show ER W TT [.int .i64 ka9, .int .i64 pa9, .int .i64 na9, .string sa9, .slice Aa9 naa9 caa9, .slice Ba9 nba9 cba9, .string za9, .slice Ca9 nca9 cca9] a ∧ ER W TT [.int .i64 kk9, .int .i64 pk9, .int .i64 nk9, .string sk9, .slice Ak9 nak9 cak9, .slice Bk9 nbk9 cbk9, .string zk9, .slice Ck9 nck9 cck9] ke ∧ ER W TT [.int .i64 kv9, .int .i64 pv9, .int .i64 nv9, .string sv9, .slice Av9 nav9 cav9, .slice Bv9 nbv9 cbv9, .string zv9, .slice Cv9 ncv9 ccv9] ve from ⟨(HEa.out.mono fun _ _ _ => trivial).bel h, (HEk.out.mono fun _ _ _ => trivial).bel h, (HEv.out.mono fun _ _ _ => trivial).bel h⟩)
    obtain ⟨da, hda⟩ : ∃ d, hasE oT a = d := ⟨_, rfl⟩
    obtain ⟨dk, hdk⟩ : ∃ d, hasE oT ke = d := ⟨_, rfl⟩
    obtain ⟨dv, hdv⟩ : ∃ d, hasE oT ve = d := ⟨_, rfl⟩
    have HSa := Lib.hid (fun (W : World) (h : Below W3.heap.size W3 W) => show Calls Tryz.prog 34 #[.agg #[.int .i64 ka9, .int .i64 pa9, .int .i64 na9, .string sa9, .slice Aa9 naa9 caa9, .slice Ba9 nba9 cba9, .string za9, .slice Ca9 nca9 cca9], .string ⟨#[111, 116, 104, 101, 114]⟩] W (BoolS da W) by rw [← hda]; exact lHas ⟨#[111, 116, 104, 101, 114]⟩ 9 a _ W HCM.out.1.2.2 (HER.out W h).1 HCM.out.1.1)
    have HSk := Lib.hid (fun (W : World) (h : Below W3.heap.size W3 W) => show Calls Tryz.prog 34 #[.agg #[.int .i64 kk9, .int .i64 pk9, .int .i64 nk9, .string sk9, .slice Ak9 nak9 cak9, .slice Bk9 nbk9 cbk9, .string zk9, .slice Ck9 nck9 cck9], .string ⟨#[111, 116, 104, 101, 114]⟩] W (BoolS dk W) by rw [← hdk]; exact lHas ⟨#[111, 116, 104, 101, 114]⟩ 9 ke _ W HCM.out.2.1.2.2 (HER.out W h).2.1 HCM.out.2.1.1)
    have HSv := Lib.hid (fun (W : World) (h : Below W3.heap.size W3 W) => show Calls Tryz.prog 34 #[.agg #[.int .i64 kv9, .int .i64 pv9, .int .i64 nv9, .string sv9, .slice Av9 nav9 cav9, .slice Bv9 nbv9 cbv9, .string zv9, .slice Cv9 ncv9 ccv9], .string ⟨#[111, 116, 104, 101, 114]⟩] W (BoolS dv W) by rw [← hdv]; exact lHas ⟨#[111, 116, 104, 101, 114]⟩ 9 ve _ W HCM.out.2.2.2.2 (HER.out W h).2.2 HCM.out.2.2.1)
    have HNK := Lib.hid hdk
    have HNV := Lib.hid hdv
    have hmf : ∀ (fn : Fn) (first cap : Array Value) (w : World), (Instr.makeFunc fn first cap).run Tryz.prog w = .ok (.func fn first cap) w := fun _ _ _ _ => rfl
    clear HBa HBk HBv HBd HEa HEk HEv hda hdk hdv
    obtain ⟨⟨ca8, fa8, la8⟩, ⟨ck8, fk8, lk8⟩, ⟨cv8, fv8, lv8⟩, _⟩ := (fun h => And.intro (Blk.rules (And.left h)) (And.intro (Blk.rules (And.left (And.right h))) (And.intro (Blk.rules (And.left (And.right (And.right h)))) trivial))) (HK4.out _ (Below.refl _ _))
    go_wp2_with fail
    refine (HSa.out _ (Below.refl _ _)).mono ?_
    rintro e w4 ⟨rfl, hb4⟩
    have HWR := Lib.hid hb4
    clear ca8 fa8 la8 ck8 fk8 lk8 cv8 fv8 lv8 hb4 hmf
    cases da with
    | true =>
      go_wp2
      go_ret
      exact ⟨rfl, HWQ.out.trans (HWR.out.mono HWQ.out.size)⟩
    | false =>
    obtain ⟨ck8, fk8, lk8⟩ := (HK4.out _ HWR.out).2.1.rules
    go_wp2_with fail
    refine (HSk.out _ HWR.out).mono ?_
    rintro e w5 ⟨rfl, hb5⟩
    have HWR5 := Lib.hid (HWR.out.trans (hb5.mono HWR.out.size))
    clear ck8 fk8 lk8 hb5
    cases dk with
    | true =>
      go_wp2
      go_ret
      exact ⟨rfl, HWQ.out.trans (HWR5.out.mono HWQ.out.size)⟩
    | false =>
    obtain ⟨cv8, fv8, lv8⟩ := (HK4.out _ HWR5.out).2.2.1.rules
    go_wp2_with fail
    refine (HSv.out _ HWR5.out).mono ?_
    rintro e w6 ⟨rfl, hb6⟩
    clear HWR
    have HWR := Lib.hid (HWR5.out.trans (hb6.mono HWR5.out.size))
    clear cv8 fv8 lv8 hb6 HWR5
    cases dv with
    | true =>
      go_wp2
      go_ret
      exact ⟨rfl, HWQ.out.trans (HWR.out.mono HWQ.out.size)⟩
    | false =>
    obtain ⟨r, hr⟩ : ∃ r, mapJ (loopJ xT a ke ve) [97] x3 = r := ⟨_, rfl⟩
    have hr2 : mapJ (loopJ oT a (rnE xT oT ke) (rnE xT oT ve)) [97] x3 = r := by rw [rn_law HNK.out HNV.out]; exact hr
    have HFEW := Lib.hid (show r.1.length ≤ 4 ∧ ∀ y ∈ r.1, good y.1 = true ∧ good y.2 = true by rw [← hr]; exact map_few _ _ _)
    have HGW := Lib.hid (fun (W : World) (h : Below W3.heap.size W3 W) => HG.out.keep (HWQ.out.trans (h.mono HWQ.out.size)))
    have HLO := Lib.hid (fun (W : World) (h : Below W3.heap.size W3 W) => show Calls Tryz.prog 33 #[.string ⟨#[120]⟩, .agg #[.int .i64 kk9, .int .i64 pk9, .int .i64 nk9, .string sk9, .slice Ak9 nak9 cak9, .slice Bk9 nbk9 cbk9, .string zk9, .slice Ck9 nck9 cck9], .agg #[.int .i64 kv9, .int .i64 pv9, .int .i64 nv9, .string sv9, .slice Av9 nav9 cav9, .slice Bv9 nbv9 cbv9, .string zv9, .slice Cv9 ncv9 ccv9], .pointer (some ⟨w.heap.size, 0, none⟩)] W (FewP (loopJ xT a ke ve) TT W) from
      lLoop xT a ke ve [.int .i64 ka9, .int .i64 pa9, .int .i64 na9, .string sa9, .slice Aa9 naa9 caa9, .slice Ba9 nba9 cba9, .string za9, .slice Ca9 nca9 cca9] [.int .i64 kk9, .int .i64 pk9, .int .i64 nk9, .string sk9, .slice Ak9 nak9 cak9, .slice Bk9 nbk9 cbk9, .string zk9, .slice Ck9 nck9 cck9] [.int .i64 kv9, .int .i64 pv9, .int .i64 nv9, .string sv9, .slice Av9 nav9 cav9, .slice Bv9 nbv9 cbv9, .string zv9, .slice Cv9 ncv9 ccv9] w.heap.size W (HER.out W h).1 (HER.out W h).2.1 (HER.out W h).2.2 (HK4.out W h).1)
    have HMP := Lib.hid (fun (W : World) (A3 : Option Addr) (n3 ca3 : Nat) (css3 : List (List Value)) (h : Below W3.heap.size W3 W) (h3 : SRs W TT css3 (loopJ xT a ke ve)) (hR3 : RdF W TT A3 css3.flatten) (hl3 : (loopJ xT a ke ve).length = n3) (hc3 : n3 ≤ ca3) =>
      show Calls Tryz.prog 21 #[.agg #[.slice A3 n3 ca3], .string ⟨#[97]⟩, .agg #[.int .i64 kd, .int .i64 nd, .string sd, .slice Ad nad cad, .slice Bd nbd cbd]] W (MapP r W) by
        rw [← hr]
        exact mMap (loopJ xT a ke ve) css3 A3 n3 ca3 [97] x3 [.int .i64 kd, .int .i64 nd, .string sd, .slice Ad nad cad, .slice Bd nbd cbd] W (HGW.out W h) h3 hl3 hc3 hR3 (cam_loop (by decide) HCM.out.1.1 HCM.out.2.1.1 HCM.out.2.2.1) (sml_loop HCM.out.1.2.1 HCM.out.2.1.2.1 HCM.out.2.2.2.1) (by rw [← hl3]; simp [loopJ]) (by decide) (HV3.out W (HWQ.out.trans (h.mono HWQ.out.size))) HC3.out)
    have HMQ := Lib.hid (fun (W : World) (A3 : Option Addr) (n3 ca3 : Nat) (css3 : List (List Value)) (h : Below W3.heap.size W3 W) (h3 : SRs W TT css3 (loopJ oT a (rnE xT oT ke) (rnE xT oT ve))) (hR3 : RdF W TT A3 css3.flatten) (hl3 : (loopJ oT a (rnE xT oT ke) (rnE xT oT ve)).length = n3) (hc3 : n3 ≤ ca3) =>
      show Calls Tryz.prog 21 #[.agg #[.slice A3 n3 ca3], .string ⟨#[97]⟩, .agg #[.int .i64 kd, .int .i64 nd, .string sd, .slice Ad nad cad, .slice Bd nbd cbd]] W (MapP r W) by
        rw [← hr2]
        exact mMap (loopJ oT a (rnE xT oT ke) (rnE xT oT ve)) css3 A3 n3 ca3 [97] x3 [.int .i64 kd, .int .i64 nd, .string sd, .slice Ad nad cad, .slice Bd nbd cbd] W (HGW.out W h) h3 hl3 hc3 hR3 (cam_loop (by decide) HCM.out.1.1 (cam_rn (by decide) 9 _ HCM.out.2.1.2.2 HCM.out.2.1.1) (cam_rn (by decide) 9 _ HCM.out.2.2.2.2 HCM.out.2.2.1)) (sml_loop HCM.out.1.2.1 (sml_rn 9 _ HCM.out.2.1.2.2 HCM.out.2.1.2.1) (sml_rn 9 _ HCM.out.2.2.2.2 HCM.out.2.2.2.1)) (by rw [← hl3]; simp [loopJ]) (by decide) (HV3.out W (HWQ.out.trans (h.mono HWQ.out.size))) HC3.out)
    have HRk := Lib.hid (fun (W : World) (h : Below W3.heap.size W3 W) => show Calls Tryz.prog 35 #[.agg #[.int .i64 kk9, .int .i64 pk9, .int .i64 nk9, .string sk9, .slice Ak9 nak9 cak9, .slice Bk9 nbk9 cbk9, .string zk9, .slice Ck9 nck9 cck9], .string ⟨#[120]⟩, .string ⟨#[111, 116, 104, 101, 114]⟩] W (CutP (rnE xT oT ke) (fun b => b < W.heap.size) W) from
      lRenC (fun b => b < W.heap.size) xT oT 9 ke [.int .i64 kk9, .int .i64 pk9, .int .i64 nk9, .string sk9, .slice Ak9 nak9 cak9, .slice Bk9 nbk9 cbk9, .string zk9, .slice Ck9 nck9 cck9] W (fun _ h => h) HCM.out.2.1.2.2 ((HER.out W h).2.1.mono fun b hb _ => hb) HCM.out.2.1.1)
    have HRv := Lib.hid (fun (W : World) (h : Below W3.heap.size W3 W) => show Calls Tryz.prog 35 #[.agg #[.int .i64 kv9, .int .i64 pv9, .int .i64 nv9, .string sv9, .slice Av9 nav9 cav9, .slice Bv9 nbv9 cbv9, .string zv9, .slice Cv9 ncv9 ccv9], .string ⟨#[120]⟩, .string ⟨#[111, 116, 104, 101, 114]⟩] W (CutP (rnE xT oT ve) (fun b => b < W.heap.size) W) from
      lRenC (fun b => b < W.heap.size) xT oT 9 ve [.int .i64 kv9, .int .i64 pv9, .int .i64 nv9, .string sv9, .slice Av9 nav9 cav9, .slice Bv9 nbv9 cbv9, .string zv9, .slice Cv9 ncv9 ccv9] W (fun _ h => h) HCM.out.2.2.2.2 ((HER.out W h).2.2.mono fun b hb _ => hb) HCM.out.2.2.1)
    have HLP := Lib.hid (fun (kcs vcs : List Value) (W : World) (h : Below W3.heap.size W3 W) (hk : ER W TT kcs (rnE xT oT ke)) (hv : ER W TT vcs (rnE xT oT ve)) => show Calls Tryz.prog 33 #[.string ⟨#[111, 116, 104, 101, 114]⟩, .agg kcs.toArray, .agg vcs.toArray, .pointer (some ⟨w.heap.size, 0, none⟩)] W (FewP (loopJ oT a (rnE xT oT ke) (rnE xT oT ve)) TT W) from
      lLoop oT a _ _ [.int .i64 ka9, .int .i64 pa9, .int .i64 na9, .string sa9, .slice Aa9 naa9 caa9, .slice Ba9 nba9 cba9, .string za9, .slice Ca9 nca9 cca9] kcs vcs w.heap.size W (HER.out W h).1 hk hv (HK4.out W h).1)
    clear hr hr2
    go_upto_region 7 with fail
    refine wp_region_held_drew (S := (fun W' => Blk W' (w.heap.size) 28 #[.int .i64 ka9, .int .i64 pa9, .int .i64 na9, .string sa9, .slice Aa9 naa9 caa9, .slice Ba9 nba9 cba9, .string za9, .slice Ca9 nca9 cca9] ∧ Blk W' (w.heap.size + 1) 28 #[.int .i64 kk9, .int .i64 pk9, .int .i64 nk9, .string sk9, .slice Ak9 nak9 cak9, .slice Bk9 nbk9 cbk9, .string zk9, .slice Ck9 nck9 cck9] ∧ Blk W' (w.heap.size + 2) 28 #[.int .i64 kv9, .int .i64 pv9, .int .i64 nv9, .string sv9, .slice Av9 nav9 cav9, .slice Bv9 nbv9 cbv9, .string zv9, .slice Cv9 ncv9 ccv9] ∧ Blk W' (w.heap.size + 3) 25 #[.int .i64 kd, .int .i64 nd, .string sd, .slice Ad nad cad, .slice Bd nbd cbd])) (by kernel_rfl) (by exact HK4.out _ (Below.trans HWR.out (Below.refl _ _).drew)) (fun hHeld => ?_)
    refine wpAnyH_worldM (fun Y0 hw => ?_)
    have HWY0 := Lib.hid (show Below W3.heap.size W3 Y0 by rw [hw]; exact Below.trans HWR.out ((Below.refl _ _).drew))
    clear hw hHeld
    have hHeld := HK4.out _ HWY0.out
    refine wpAnyH_take (i := 0) (oi := ⟨some 34, _, _, _, _, _⟩) (v := .func (.func 33) #[] #[.pointer (some ⟨w.heap.size, 0, none⟩)]) rfl (by kernel_rfl) (by kernel_rfl) (by kernel_rfl) (fun _ _ _ h => h) (Or.inl ⟨by kernel_rfl, ?_⟩) (by assumption) ?_
    · intro W hSw; go_simp
    try simp only [Act.put, List.setIfInBounds_toArray, List.set_cons_zero, List.set_cons_succ]
    refine wpAnyH_take (i := 1) (oi := ⟨some 35, _, _, _, _, _⟩) (v := .agg #[.int .i64 kk9, .int .i64 pk9, .int .i64 nk9, .string sk9, .slice Ak9 nak9 cak9, .slice Bk9 nbk9 cbk9, .string zk9, .slice Ck9 nck9 cck9]) rfl (by kernel_rfl) (by kernel_rfl) (by kernel_rfl) (fun _ _ _ h => h) (Or.inl ⟨by kernel_rfl, ?_⟩) (by assumption) ?_
    · intro W hSw; obtain ⟨c8, f8, l8⟩ := hSw.2.1.rules; go_simp
    try simp only [Act.put, List.setIfInBounds_toArray, List.set_cons_zero, List.set_cons_succ]
    refine wpAnyH_take (i := 2) (oi := ⟨some 36, _, _, _, _, _⟩) (v := .agg #[.int .i64 kv9, .int .i64 pv9, .int .i64 nv9, .string sv9, .slice Av9 nav9 cav9, .slice Bv9 nbv9 cbv9, .string zv9, .slice Cv9 ncv9 ccv9]) rfl (by kernel_rfl) (by kernel_rfl) (by kernel_rfl) (fun _ _ _ h => h) (Or.inl ⟨by kernel_rfl, ?_⟩) (by assumption) ?_
    · intro W hSw; obtain ⟨c8, f8, l8⟩ := hSw.2.2.1.rules; go_simp
    try simp only [Act.put, List.setIfInBounds_toArray, List.set_cons_zero, List.set_cons_succ]
    refine wpAnyH_take (i := 4) (oi := ⟨some 38, _, _, _, _, _⟩) (v := .agg #[.int .i64 kd, .int .i64 nd, .string sd, .slice Ad nad cad, .slice Bd nbd cbd]) rfl (by kernel_rfl) (by kernel_rfl) (by kernel_rfl) (fun _ _ _ h => h) (Or.inl ⟨by kernel_rfl, ?_⟩) (by assumption) ?_
    · intro W hSw; obtain ⟨c8, f8, l8⟩ := hSw.2.2.2.rules; go_simp
    try simp only [Act.put, List.setIfInBounds_toArray, List.set_cons_zero, List.set_cons_succ]
    refine wpAnyH_ready (rs := [3]) (by kernel_rfl) (by simp) ?_
    refine AllReadyH.cons (o := ⟨some 37, _, _, _, _, _⟩) rfl (fun K hK => ?_) AllReadyH.nil
    go_simp
    refine (HLO.out _ HWY0.out).mono ?_
    rintro e Y1 ⟨A7, n7, ca7, css7, rfl, hn7, hnc7, hA7, hS7, hR7, hb⟩
    have HWY1 := Lib.hid (HWY0.out.trans (hb.mono HWY0.out.size))
    have HM1 := Lib.hid (HMP.out Y1 A7 n7 ca7 css7 HWY1.out (RR.imp hS7 fun c x (hc : SR _ _ c x) => hc.mono fun _ _ _ => trivial) (hR7.mono fun _ _ _ => trivial) hn7.symm hnc7)
    clear hn7 hnc7 hA7 hS7 hR7
    refine hK.out _ _ (by exact HK4.out _ HWY1.out) (fun hHeld2 => ?_)
    clear hK K hHeld hb
    have hHeld := hHeld2
    clear hHeld2
    try simp only [Act.put, List.setIfInBounds_toArray, List.set_cons_zero, List.set_cons_succ]
    refine wpAnyH_ready (rs := [5]) (by kernel_rfl) (by simp) ?_
    refine AllReadyH.cons (o := ⟨some 39, _, _, _, _, _⟩) rfl (fun K hK => ?_) AllReadyH.nil
    go_simp
    refine (HM1.out).mono ?_
    rintro e Y2 ⟨A8, n8, ca8, css8, rfl, hl8, hnc8, hA8, hE8, hR8, hC8, hb⟩
    have HWY2 := Lib.hid (HWY1.out.trans (hb.mono HWY1.out.size))
    have HEM := Lib.hid (And.intro hl8 (And.intro hE8 (And.intro hR8 hC8)))
    clear hl8 hnc8 hA8 hE8 hR8 hC8
    refine hK.out _ _ (by exact HK4.out _ HWY2.out) (fun hHeld2 => ?_)
    clear hK K hHeld hb
    have hHeld := hHeld2
    clear hHeld2
    try simp only [Act.put, List.setIfInBounds_toArray, List.set_cons_zero, List.set_cons_succ]
    refine wpAnyH_take (i := 6) (oi := ⟨some 33, _, _, _, _, _⟩) (v := .tuple #[.slice A8 n8 ca8, .int .i64 r.2]) rfl (by kernel_rfl) (by kernel_rfl) (by kernel_rfl) (fun _ _ _ h => h) (Or.inl ⟨by kernel_rfl, ?_⟩) (by assumption) ?_
    · intro W hSw; go_simp
    try simp only [Act.put, List.setIfInBounds_toArray, List.set_cons_zero, List.set_cons_succ]
    refine wpAnyH_take (i := 7) (oi := ⟨some 40, _, _, _, _, _⟩) (v := .slice A8 n8 ca8) rfl (by kernel_rfl) (by kernel_rfl) (by kernel_rfl) (fun _ _ _ h => h) (Or.inl ⟨by kernel_rfl, ?_⟩) (by assumption) ?_
    · intro W hSw; go_simp
    try simp only [Act.put, List.setIfInBounds_toArray, List.set_cons_zero, List.set_cons_succ]
    refine wpAnyH_take (i := 8) (oi := ⟨some 41, _, _, _, _, _⟩) (v := .int .i64 r.2) rfl (by kernel_rfl) (by kernel_rfl) (by kernel_rfl) (fun _ _ _ h => h) (Or.inl ⟨by kernel_rfl, ?_⟩) (by assumption) ?_
    · intro W hSw; go_simp
    try simp only [Act.put, List.setIfInBounds_toArray, List.set_cons_zero, List.set_cons_succ]
    refine wpAnyH_take (i := 9) (oi := ⟨some 10, _, _, _, _, _⟩) (v := .slice A8 n8 ca8) rfl (by kernel_rfl) (by kernel_rfl) (by kernel_rfl) (fun _ _ _ h => h) (Or.inl ⟨by kernel_rfl, ?_⟩) (by assumption) ?_
    · intro W hSw; go_simp
    try simp only [Act.put, List.setIfInBounds_toArray, List.set_cons_zero, List.set_cons_succ]
    refine wpAnyH_take (i := 10) (oi := ⟨some 11, _, _, _, _, _⟩) (v := .int .i64 r.2) rfl (by kernel_rfl) (by kernel_rfl) (by kernel_rfl) (fun _ _ _ h => h) (Or.inl ⟨by kernel_rfl, ?_⟩) (by assumption) ?_
    · intro W hSw; go_simp
    try simp only [Act.put, List.setIfInBounds_toArray, List.set_cons_zero, List.set_cons_succ]
    refine wpAnyH_done (by kernel_rfl) ?_ _
    go_upto_region 8 with fail
    refine wp_region_held_drew (S := (fun W' => Blk W' (w.heap.size) 28 #[.int .i64 ka9, .int .i64 pa9, .int .i64 na9, .string sa9, .slice Aa9 naa9 caa9, .slice Ba9 nba9 cba9, .string za9, .slice Ca9 nca9 cca9] ∧ Blk W' (w.heap.size + 1) 28 #[.int .i64 kk9, .int .i64 pk9, .int .i64 nk9, .string sk9, .slice Ak9 nak9 cak9, .slice Bk9 nbk9 cbk9, .string zk9, .slice Ck9 nck9 cck9] ∧ Blk W' (w.heap.size + 2) 28 #[.int .i64 kv9, .int .i64 pv9, .int .i64 nv9, .string sv9, .slice Av9 nav9 cav9, .slice Bv9 nbv9 cbv9, .string zv9, .slice Cv9 ncv9 ccv9] ∧ Blk W' (w.heap.size + 3) 25 #[.int .i64 kd, .int .i64 nd, .string sd, .slice Ad nad cad, .slice Bd nbd cbd])) (by kernel_rfl) (by exact HK4.out _ (Below.trans HWY2.out (Below.refl _ _).drew)) (fun hHeld => ?_)
    refine wpAnyH_worldM (fun X0 hw => ?_)
    have HWX0 := Lib.hid (show Below W3.heap.size W3 X0 by rw [hw]; exact Below.trans HWY2.out ((Below.refl _ _).drew))
    have HWE0 := Lib.hid (show Below Y2.heap.size Y2 X0 by rw [hw]; exact (Below.refl _ _).drew)
    clear hw hHeld
    have hHeld := HK4.out _ HWX0.out
    refine wpAnyH_take (i := 0) (oi := ⟨some 43, _, _, _, _, _⟩) (v := .func (.func 33) #[] #[.pointer (some ⟨w.heap.size, 0, none⟩)]) rfl (by kernel_rfl) (by kernel_rfl) (by kernel_rfl) (fun _ _ _ h => h) (Or.inl ⟨by kernel_rfl, ?_⟩) (by assumption) ?_
    · intro W hSw; go_simp
    try simp only [Act.put, List.setIfInBounds_toArray, List.set_cons_zero, List.set_cons_succ]
    refine wpAnyH_take (i := 1) (oi := ⟨some 44, _, _, _, _, _⟩) (v := .agg #[.int .i64 kk9, .int .i64 pk9, .int .i64 nk9, .string sk9, .slice Ak9 nak9 cak9, .slice Bk9 nbk9 cbk9, .string zk9, .slice Ck9 nck9 cck9]) rfl (by kernel_rfl) (by kernel_rfl) (by kernel_rfl) (fun _ _ _ h => h) (Or.inl ⟨by kernel_rfl, ?_⟩) (by assumption) ?_
    · intro W hSw; obtain ⟨c8, f8, l8⟩ := hSw.2.1.rules; go_simp
    try simp only [Act.put, List.setIfInBounds_toArray, List.set_cons_zero, List.set_cons_succ]
    refine wpAnyH_take (i := 3) (oi := ⟨some 46, _, _, _, _, _⟩) (v := .agg #[.int .i64 kv9, .int .i64 pv9, .int .i64 nv9, .string sv9, .slice Av9 nav9 cav9, .slice Bv9 nbv9 cbv9, .string zv9, .slice Cv9 ncv9 ccv9]) rfl (by kernel_rfl) (by kernel_rfl) (by kernel_rfl) (fun _ _ _ h => h) (Or.inl ⟨by kernel_rfl, ?_⟩) (by assumption) ?_
    · intro W hSw; obtain ⟨c8, f8, l8⟩ := hSw.2.2.1.rules; go_simp
    try simp only [Act.put, List.setIfInBounds_toArray, List.set_cons_zero, List.set_cons_succ]
    refine wpAnyH_take (i := 6) (oi := ⟨some 49, _, _, _, _, _⟩) (v := .agg #[.int .i64 kd, .int .i64 nd, .string sd, .slice Ad nad cad, .slice Bd nbd cbd]) rfl (by kernel_rfl) (by kernel_rfl) (by kernel_rfl) (fun _ _ _ h => h) (Or.inl ⟨by kernel_rfl, ?_⟩) (by assumption) ?_
    · intro W hSw; obtain ⟨c8, f8, l8⟩ := hSw.2.2.2.rules; go_simp
    try simp only [Act.put, List.setIfInBounds_toArray, List.set_cons_zero, List.set_cons_succ]
    refine wpAnyH_ready (rs := [2]) (by kernel_rfl) (by simp) ?_
    refine AllReadyH.cons (o := ⟨some 45, _, _, _, _, _⟩) rfl (fun K hK => ?_) AllReadyH.nil
    go_simp
    refine (HRk.out _ HWX0.out).mono ?_
    rintro e X1 ⟨csk, rfl, hv, hb⟩
    have HWX1 := Lib.hid (HWX0.out.trans (hb.mono HWX0.out.size))
    have HWE1 := Lib.hid (HWE0.out.trans (hb.mono HWE0.out.size))
    have HQk := Lib.hid (fun (W : World) (h : Below X1.heap.size X1 W) => (hv.mono (F' := TT) fun _ _ _ => trivial).bel h)
    obtain ⟨kk7, pk7, nk7, sk7, Ak7, nak7, cak7, Bk7, nbk7, cbk7, zk7, Ck7, nck7, cck7, rfl⟩ := hv.form
    clear hv
    refine hK.out _ _ (by exact HK4.out _ HWX1.out) (fun hHeld2 => ?_)
    clear hK K hHeld hb
    have hHeld := hHeld2
    clear hHeld2
    try simp only [Act.put, List.setIfInBounds_toArray, List.set_cons_zero, List.set_cons_succ]
    refine wpAnyH_ready (rs := [4]) (by kernel_rfl) (by simp) ?_
    refine AllReadyH.cons (o := ⟨some 47, _, _, _, _, _⟩) rfl (fun K hK => ?_) AllReadyH.nil
    go_simp
    refine (HRv.out _ HWX1.out).mono ?_
    rintro e X2 ⟨csv, rfl, hv, hb⟩
    have hbX12 := hb
    have HWX2 := Lib.hid (HWX1.out.trans (hb.mono HWX1.out.size))
    have HWE2 := Lib.hid (HWE1.out.trans (hb.mono HWE1.out.size))
    have HQv := Lib.hid (fun (W : World) (h : Below X2.heap.size X2 W) => (hv.mono (F' := TT) fun _ _ _ => trivial).bel h)
    obtain ⟨kv7, pv7, nv7, sv7, Av7, nav7, cav7, Bv7, nbv7, cbv7, zv7, Cv7, ncv7, ccv7, rfl⟩ := hv.form
    clear hv
    refine hK.out _ _ (by exact HK4.out _ HWX2.out) (fun hHeld2 => ?_)
    clear hK K hHeld hb
    have hHeld := hHeld2
    clear hHeld2
    try simp only [Act.put, List.setIfInBounds_toArray, List.set_cons_zero, List.set_cons_succ]
    refine wpAnyH_ready (rs := [5]) (by kernel_rfl) (by simp) ?_
    refine AllReadyH.cons (o := ⟨some 48, _, _, _, _, _⟩) rfl (fun K hK => ?_) AllReadyH.nil
    go_simp
    refine (HLP.out _ _ _ HWX2.out (HQk.out _ (by assumption)) (HQv.out _ (Below.refl _ _))).mono ?_
    rintro e X3 ⟨A9, n9, ca9, css9, rfl, hn9, hnc9, hA9, hS9, hR9, hb⟩
    have HWX3 := Lib.hid (HWX2.out.trans (hb.mono HWX2.out.size))
    have HWE3 := Lib.hid (HWE2.out.trans (hb.mono HWE2.out.size))
    have HM2 := Lib.hid (HMQ.out X3 A9 n9 ca9 css9 HWX3.out (RR.imp hS9 fun c x (hc : SR _ _ c x) => hc.mono fun _ _ _ => trivial) (hR9.mono fun _ _ _ => trivial) hn9.symm hnc9)
    clear hn9 hnc9 hA9 hS9 hR9 hbX12
    refine hK.out _ _ (by exact HK4.out _ HWX3.out) (fun hHeld2 => ?_)
    clear hK K hHeld hb
    have hHeld := hHeld2
    clear hHeld2
    try simp only [Act.put, List.setIfInBounds_toArray, List.set_cons_zero, List.set_cons_succ]
    refine wpAnyH_ready (rs := [7]) (by kernel_rfl) (by simp) ?_
    refine AllReadyH.cons (o := ⟨some 50, _, _, _, _, _⟩) rfl (fun K hK => ?_) AllReadyH.nil
    go_simp
    refine (HM2.out).mono ?_
    rintro e X4 ⟨A6, n6, ca6, css6, rfl, hl6, hnc6, hA6, hE6, hR6, hC6, hb⟩
    have HWX4 := Lib.hid (HWX3.out.trans (hb.mono HWX3.out.size))
    have HWE4 := Lib.hid (HWE3.out.trans (hb.mono HWE3.out.size))
    have HEN := Lib.hid (And.intro hl6 (And.intro hE6 (And.intro hR6 hC6)))
    clear hl6 hnc6 hA6 hE6 hR6 hC6
    refine hK.out _ _ (by exact HK4.out _ HWX4.out) (fun hHeld2 => ?_)
    clear hK K hHeld hb
    have hHeld := hHeld2
    clear hHeld2
    try simp only [Act.put, List.setIfInBounds_toArray, List.set_cons_zero, List.set_cons_succ]
    refine wpAnyH_take (i := 8) (oi := ⟨some 42, _, _, _, _, _⟩) (v := .tuple #[.slice A6 n6 ca6, .int .i64 r.2]) rfl (by kernel_rfl) (by kernel_rfl) (by kernel_rfl) (fun _ _ _ h => h) (Or.inl ⟨by kernel_rfl, ?_⟩) (by assumption) ?_
    · intro W hSw; go_simp
    try simp only [Act.put, List.setIfInBounds_toArray, List.set_cons_zero, List.set_cons_succ]
    refine wpAnyH_take (i := 9) (oi := ⟨some 51, _, _, _, _, _⟩) (v := .slice A6 n6 ca6) rfl (by kernel_rfl) (by kernel_rfl) (by kernel_rfl) (fun _ _ _ h => h) (Or.inl ⟨by kernel_rfl, ?_⟩) (by assumption) ?_
    · intro W hSw; go_simp
    try simp only [Act.put, List.setIfInBounds_toArray, List.set_cons_zero, List.set_cons_succ]
    refine wpAnyH_take (i := 10) (oi := ⟨some 52, _, _, _, _, _⟩) (v := .int .i64 r.2) rfl (by kernel_rfl) (by kernel_rfl) (by kernel_rfl) (fun _ _ _ h => h) (Or.inl ⟨by kernel_rfl, ?_⟩) (by assumption) ?_
    · intro W hSw; go_simp
    try simp only [Act.put, List.setIfInBounds_toArray, List.set_cons_zero, List.set_cons_succ]
    refine wpAnyH_take (i := 11) (oi := ⟨some 12, _, _, _, _, _⟩) (v := .slice A6 n6 ca6) rfl (by kernel_rfl) (by kernel_rfl) (by kernel_rfl) (fun _ _ _ h => h) (Or.inl ⟨by kernel_rfl, ?_⟩) (by assumption) ?_
    · intro W hSw; go_simp
    try simp only [Act.put, List.setIfInBounds_toArray, List.set_cons_zero, List.set_cons_succ]
    refine wpAnyH_take (i := 12) (oi := ⟨some 13, _, _, _, _, _⟩) (v := .int .i64 r.2) rfl (by kernel_rfl) (by kernel_rfl) (by kernel_rfl) (fun _ _ _ h => h) (Or.inl ⟨by kernel_rfl, ?_⟩) (by assumption) ?_
    · intro W hSw; go_simp
    try simp only [Act.put, List.setIfInBounds_toArray, List.set_cons_zero, List.set_cons_succ]
    refine wpAnyH_done (by kernel_rfl) ?_ _
    clear hHeld
    have HLN1 := Lib.hid HEM.out.1
    obtain rfl : n8 = n6 := HEM.out.1.symm.trans HEN.out.1
    have HSM := Lib.hid (fun (W : World) (h : Below X4.heap.size X4 W) => lSameE r.1 A8 A6 n8 ca8 ca6 css8 css6 W (HGW.out W (HWX4.out.trans (h.mono HWX4.out.size))).gok (RR.imp HEM.out.2.1 fun c y hc => hc.keep (KeepF.of_below (HWE4.out.trans (h.mono HWE4.out.size)))) (HEM.out.2.2.1.keep (KeepF.of_below (HWE4.out.trans (h.mono HWE4.out.size)))) (RR.imp HEN.out.2.1 fun c y hc => hc.keep (KeepF.of_below h)) (HEN.out.2.2.1.keep (KeepF.of_below h)) HEM.out.1 (by rw [← HEM.out.1]; exact HFEW.out.1) HFEW.out.2 HEM.out.2.2.2)
    obtain ⟨r1, r2⟩ := r
    go_wp2_with fail
    refine (HSM.out _ (Below.refl _ _)).mono ?_
    rintro e w9 ⟨rfl, hb9⟩
    have HB9 := Lib.hid (HWX4.out.trans (hb9.mono HWX4.out.size))
    clear hb9
    go_wp2
    go_ret
    exact ⟨rfl, HWQ.out.trans (HB9.out.mono HWQ.out.size)⟩
end Go.Proofs.YtgolomgmnanbpaaGreatDoor
