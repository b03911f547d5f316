/- The walks of collate.Compare and collate.Front. -/
import Derived.Test.YtoejdhabpajhlaaDoorCmp2G
import Derived.Test.YtoejdhabpajhlaaDoorToldG
namespace Go.Proofs.YtoejdhabpajhlaaDoor
set_option linter.unusedVariables false
set_option linter.unusedSimpArgs false
open Go.RowKit
attribute [local go_sem] run_index_arr run_part_agg run_part_one run_field_agg

/-- a row that lies in a block of its own -/
theorem RowV.blk {W : World} {g : Nat} {t : TypeId} {css : List (List Value)} {l : List JV} {ca : Nat} (h : VRs W TT css l) (hca : l.length ≤ ca) (hb : Blk W g t css.flatten.toArray) : RowV W (some ⟨g, 0, none⟩) ca l :=
  ⟨css, h, hca, fun e => by simp at e, fun hne => ⟨g, 0, rfl, hb.lt, trivial, fun i hi => by
    have := hb.cell i
    rw [Nat.zero_add, this]
    simp [hi]⟩⟩
theorem VR.top {W : World} {F : Nat → Prop} {cs : List Value} {v : JV} (h : VR W F cs v) : VR W TT cs v := h.mono fun _ _ _ => trivial
theorem VRs.one_ {W : World} {cs : List Value} {v : JV} (h : VR W TT cs v) : VRs W TT [cs] [v] := by
  have := VRs.nil.snoc h; simpa using this
theorem VRs.two_ {W : World} {cs cs' : List Value} {v v' : JV} (h : VR W TT cs v) (h' : VR W TT cs' v') : VRs W TT [cs, cs'] [v, v'] := by
  have := (VRs.one_ h).snoc h'; simpa using this
/-- what Compare tells -/
noncomputable def cmpO (a b : JV) : Int × Int := if good a = true ∧ good b = true then (cmpJ a b, 0) else (0, 140)
set_option maxRecDepth 100000 in
set_option maxHeartbeats 4000000 in
theorem cCompare1 (a b : JV) (cs cs' : List Value) (g g' : Nat) (F F' : Nat → Prop) (w : World) (h : VR w F cs a) (h' : VR w F' cs' b) (ha : gd a) (hb : gd b) (c : Came a) (c' : Came b) (hB : Blk w g 28 cs.toArray) (hB' : Blk w g' 28 cs'.toArray) :
    Calls Tryd.prog 33 #[.pointer (some ⟨g, 0, none⟩), .pointer (some ⟨g', 0, none⟩)] w fun e w' => e = .returned (.tuple #[.int .i64 (cmpJ a b), .int .i64 0]) ∧ Below w.heap.size w w' := by
  have HC := Lib.hid (cCompare_any a b cs cs' F F' w h h' ha hb c c')
  obtain ⟨k0, n0, s0, A0, na0, ca0, B0, nb0, cb0, rfl⟩ := h.form
  obtain ⟨k1, n1, s1, A1, na1, ca1, B1, nb1, cb1, rfl⟩ := h'.form
  obtain ⟨R, hR⟩ : ∃ R, cmpJ a b = R := ⟨_, rfl⟩
  rw [hR] at HC ⊢
  clear h h' hR ha hb c c'
  obtain ⟨c1, f1, l1⟩ := hB.rules
  obtain ⟨c2, f2, l2⟩ := hB'.rules
  clear hB hB'
  go_enter Tryd.func33, Tryd.ntmps33
  go_wp2_with fail
  refine HC.out.mono ?_
  rintro e w1 ⟨rfl, hg⟩
  have HG := Lib.hid hg
  clear hg
  go_wp2
  go_ret2
  exact ⟨rfl, HG.out.1⟩
set_option maxRecDepth 100000 in
set_option maxHeartbeats 4000000 in
theorem cComp (a b : JV) (cs cs' : List Value) (F F' : Nat → Prop) (w : World) (hG : GOK w) (h : VR w F cs a) (h' : VR w F' cs' b) (c : Came a) (c' : Came b) :
    Calls Tryd.prog 12 #[.agg cs.toArray, .agg cs'.toArray] w fun e w' => e = .returned (.tuple #[.int .i64 (cmpO a b).1, .int .i64 (cmpO a b).2]) ∧ Below w.heap.size w w' := by
  have HV := Lib.hid h.top
  have HV' := Lib.hid h'.top
  obtain ⟨k0, n0, s0, A0, na0, ca0, B0, nb0, cb0, rfl⟩ := h.form
  obtain ⟨k1, n1, s1, A1, na1, ca1, B1, nb1, cb1, rfl⟩ := h'.form
  have HT := Lib.hid (fun (W : World) (hb : Below w.heap.size w W) (g ga gb : Nat) (t : TypeId)
      (h1 : Blk W g t #[.int .i64 k0, .int .i64 n0, .string s0, .slice A0 na0 ca0, .slice B0 nb0 cb0, .int .i64 k1, .int .i64 n1, .string s1, .slice A1 na1 ca1, .slice B1 nb1 cb1])
      (h2 : Blk W ga 28 #[.int .i64 k0, .int .i64 n0, .string s0, .slice A0 na0 ca0, .slice B0 nb0 cb0]) (h3 : Blk W gb 28 #[.int .i64 k1, .int .i64 n1, .string s1, .slice A1 na1 ca1, .slice B1 nb1 cb1]) =>
    toldI [a, b] (some ⟨g, 0, none⟩) 2 2 (.pointer (some ⟨ga, 0, none⟩)) (.pointer (some ⟨gb, 0, none⟩)) W (hG.keep hb) (RowV.blk (VRs.two_ (HV.out.bel hb) (HV'.out.bel hb)) (Nat.le_refl 2) h1) rfl (by intro x hx; simp at hx; rcases hx with rfl | rfl; exact c; exact c') (by omega)
      (fun e w' => e = .returned (.tuple #[.int .i64 (cmpO a b).1, .int .i64 (cmpO a b).2]) ∧ Below w.heap.size w w')
      (fun ⟨x, hx, hng⟩ W' hb' => by
        have : cmpO a b = (0, 140) := by
          unfold cmpO
          rw [if_neg]
          rintro ⟨q1, q2⟩
          simp at hx
          rcases hx with rfl | rfl
          · exact hng q1
          · exact hng q2
        exact ⟨by rw [this], hb.trans (hb'.mono hb.size)⟩)
      (fun hall W' hb' => by
        have hga := hall a (by simp)
        have hgb := hall b (by simp)
        have : cmpO a b = (cmpJ a b, 0) := if_pos ⟨hga, hgb⟩
        refine (cCompare1 a b _ _ ga gb TT TT W' ((HV.out.bel hb).bel hb') ((HV'.out.bel hb).bel hb') hga hgb c c' (h2.keep hb') (h3.keep hb')).mono ?_
        rintro e w' ⟨rfl, hb2⟩
        exact ⟨_, _, rfl, by rw [this], hb.trans ((hb'.trans (hb2.mono hb'.size)).mono hb.size)⟩))
  obtain ⟨R, hR⟩ : ∃ R, (cmpO a b).1 = R := ⟨_, rfl⟩
  obtain ⟨E, hE⟩ : ∃ E, (cmpO a b).2 = E := ⟨_, rfl⟩
  rw [hR, hE] at HT ⊢
  have hb3 : Below w.heap.size w (((w.alloc (.cells #[.int .i64 k0, .int .i64 n0, .string s0, .slice A0 na0 ca0, .slice B0 nb0 cb0] 28)).alloc (.cells #[.int .i64 k1, .int .i64 n1, .string s1, .slice A1 na1 ca1, .slice B1 nb1 cb1] 28))) :=
    ((Below.refl _ w).alloc (Nat.le_refl _) _).alloc (by simp) _
  have hA := (Blk.new w 28 #[.int .i64 k0, .int .i64 n0, .string s0, .slice A0 na0 ca0, .slice B0 nb0 cb0]).alloc (.cells #[.int .i64 k1, .int .i64 n1, .string s1, .slice A1 na1 ca1, .slice B1 nb1 cb1] 28)
  have hB := Blk.new (w.alloc (.cells #[.int .i64 k0, .int .i64 n0, .string s0, .slice A0 na0 ca0, .slice B0 nb0 cb0] 28)) 28 #[.int .i64 k1, .int .i64 n1, .string s1, .slice A1 na1 ca1, .slice B1 nb1 cb1]
  rw [World.size_alloc] at hB
  have HB3 := Lib.hid hb3
  have HA := Lib.hid hA
  have HBB := Lib.hid hB
  clear hb3 hA hB h h' hG c c' hR hE HV HV'
  have hmf : ∀ (fn : Fn) (first cap : Array Value) (w : World), (Instr.makeFunc fn first cap).run Tryd.prog w = .ok (.func fn first cap) w := fun _ _ _ _ => rfl
  have y1 : w.heap.size ≠ w.heap.size + 1 := by omega
  have y2 : w.heap.size + 1 ≠ w.heap.size := by omega
  go_enter Tryd.func12, Tryd.ntmps12
  go_wp2_with fail
  refine Calls.mono (HT.out _ (HB3.out.alloc HB3.out.size _) _ _ _ 28 ?h1 (HA.out.alloc _) (HBB.out.alloc _)) ?_
  case h1 =>
    have h := Blk.new ((w.alloc (.cells #[.int .i64 k0, .int .i64 n0, .string s0, .slice A0 na0 ca0, .slice B0 nb0 cb0] 28)).alloc (.cells #[.int .i64 k1, .int .i64 n1, .string s1, .slice A1 na1 ca1, .slice B1 nb1 cb1] 28)) 28 #[.int .i64 k0, .int .i64 n0, .string s0, .slice A0 na0 ca0, .slice B0 nb0 cb0, .int .i64 k1, .int .i64 n1, .string s1, .slice A1 na1 ca1, .slice B1 nb1 cb1]
    rw [World.size_alloc, World.size_alloc] at h
    exact h
  rintro e w1 ⟨rfl, hb1⟩
  have HF := Lib.hid hb1
  clear hb1
  go_wp2
  go_ret2
  exact ⟨rfl, HF.out⟩
end Go.Proofs.YtoejdhabpajhlaaDoor
