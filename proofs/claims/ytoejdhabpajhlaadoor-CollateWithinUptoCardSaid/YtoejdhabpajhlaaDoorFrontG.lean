/- The walks of collate.front, Front, and of the reference's Front. -/
import Derived.Test.YtoejdhabpajhlaaDoorColG
namespace Go.Proofs.YtoejdhabpajhlaaDoor
set_option linter.unusedVariables false
set_option linter.unusedSimpArgs false
open Go.RowKit
attribute [local go_sem] run_index_arr run_part_agg run_part_one run_field_agg

/-- a value's front -/
def frontJ (v : JV) (n : Nat) : JV := match v with | .mk k m s kids keys => if k = 5 ∧ n < kids.length then .mk k m s (kids.take n) keys else .mk k m s kids keys
theorem RdF.pre {W : World} {F : Nat → Prop} {A : Option Addr} {xs ys : List Value} (h : RdF W F A (xs ++ ys)) : RdF W F A xs := fun hne => by
  obtain ⟨b, o, e, hb, hf, hx⟩ := h (by simp [hne])
  refine ⟨b, o, e, hb, hf, fun i hi => ?_⟩
  rw [hx i (by rw [List.length_append]; omega), List.getElem_append_left hi]
theorem flat_take (css : List (List Value)) (n : Nat) : css.flatten = (css.take n).flatten ++ (css.drop n).flatten := by rw [← List.flatten_append, List.take_append_drop]
theorem nodesL_take (xs : List JV) (n : Nat) : nodesL (xs.take n) ≤ nodesL xs := by
  have h := nodesL_app (xs.take n) (xs.drop n)
  rw [List.take_append_drop] at h
  omega
theorem bulkL_take : ∀ (xs : List JV) (n : Nat), bulkL (xs.take n) ≤ bulkL xs
  | [], n => by simp
  | x :: r, 0 => by simp [bulkL]
  | x :: r, n + 1 => by have := bulkL_take r n; rw [List.take_succ_cons]; unfold bulkL; omega
theorem front_came {v : JV} (h : Came v) (n : Nat) : Came (frontJ v n) := by
  obtain ⟨k, m, s, kids, keys⟩ := v
  unfold frontJ
  simp only
  split
  · obtain ⟨h1, h2⟩ := h
    unfold inJ at h1
    unfold bulkJ at h2
    refine ⟨by unfold inJ; exact ⟨h1.1, h1.2.1, inL_iff.2 fun x hx => inL_iff.1 h1.2.2 x (List.mem_of_mem_take hx)⟩, by unfold bulkJ; have := bulkL_take kids n; omega⟩
  · exact h
theorem front_gd {v : JV} (h : gd v) (n : Nat) : gd (frontJ v n) := by
  obtain ⟨k, m, s, kids, keys⟩ := v
  unfold frontJ
  simp only
  split
  · rename_i hk
    obtain ⟨rfl, hn⟩ := hk
    unfold gd good at *
    rw [Bool.and_eq_true, decide_eq_true_eq] at *
    obtain ⟨h1, h2⟩ := h
    obtain ⟨h3, h4, h5⟩ := goodJ_out h1
    unfold nodesJ at h2 ⊢
    have := nodesL_take kids n
    refine ⟨?_, by omega⟩
    unfold goodJ
    obtain ⟨q1, q2, q3⟩ := goodA_list h3
    rw [Bool.and_eq_true, Bool.and_eq_true, decide_eq_true_eq]
    refine ⟨by subst q1 q2 q3; simp [goodA], h4, goodL_iff.2 fun x hx => goodL_iff.1 h5 x (List.mem_of_mem_take hx)⟩
  · exact h
theorem front_vr {W : World} {F : Nat → Prop} {k m : Int} {s : List UInt8} {kids : List JV} {keys : List (List UInt8)} {A B : Option Addr} {cb : Nat} {css : List (List Value)} {n : Nat} (h1 : VRs W F css kids) (h3 : keys.length ≤ cb) (hA : A ≠ none) (hB : B = none → cb = 0) (h4 : RdF W F A css.flatten) (h5 : RdF W F B (strV keys)) (hn : n < kids.length) (ca' : Nat) (hca : n ≤ ca') :
    VR W F [.int .i64 k, .int .i64 m, .string ⟨s.toArray⟩, .slice A n ca', .slice B keys.length cb] (.mk k m s (kids.take n) keys) := by
  rw [flat_take css n] at h4
  exact VR.into k m s (h1.take n) (by rw [List.length_take]; omega) h3 (fun e => absurd e hA) hB h4.pre h5 (by rw [List.length_take]; omega) rfl
/-- what a front's walk tells: the value reads so in the world w0 -/
def FrontPost (v : JV) (w0 w : World) (e : Ending) (w' : World) : Prop := ∃ cs', e = .returned (.agg cs'.toArray) ∧ VR w0 TT cs' v ∧ Below w.heap.size w w'
set_option maxRecDepth 100000 in
set_option maxHeartbeats 4000000 in
theorem cFront0 (v : JV) (n : Nat) (cs : List Value) (F : Nat → Prop) (w0 w : World) (hv : VR w0 F cs v) (hC : Came v) : Calls Tryd.prog 50 #[.agg cs.toArray, .int .i64 n] w (FrontPost (frontJ v n) w0 w) := by
  have HV := Lib.hid hv.top
  obtain ⟨k, m, s, kids, keys⟩ := v
  obtain ⟨_, _, hsl, hkl, hyl, _, _⟩ := hC.out
  obtain ⟨A, B, ca, cb, css, rfl, h1, h2, h3, h4, h5, h6, h7⟩ := hv.out
  have hAne : 0 < kids.length → ∃ b o, A = some ⟨b, o, none⟩ := fun h => by
    obtain ⟨b, o, e, _⟩ := h6 (by intro e; have := congrArg List.length e; rw [h1.flat] at this; simp at this; omega)
    exact ⟨b, o, e⟩
  have HFV := Lib.hid (fun (hn : n < kids.length) (hA : A ≠ none) => front_vr (k := k) (m := m) (s := s) (h1.mono fun _ _ _ => trivial) h3 hA h5 (h6.mono fun _ _ _ => trivial) (h7.mono fun _ _ _ => trivial) hn n (by omega) (F := TT))
  unfold frontJ
  obtain ⟨nk, hnk⟩ : ∃ nk, kids.length = nk := ⟨_, rfl⟩
  obtain ⟨ny, hny⟩ : ∃ ny, keys.length = ny := ⟨_, rfl⟩
  rw [hnk] at HFV HV hAne h2 hkl ⊢
  rw [hny] at HFV HV
  simp only [hnk, hny]
  clear hv hC h1 h3 h4 h5 h6 h7 hnk hny
  by_cases hk : k = 5
  · subst hk
    by_cases hlt : n < nk
    · obtain ⟨b, o, rfl⟩ := hAne (by omega)
      have HF := Lib.hid (HFV.out hlt (by simp))
      rw [if_pos ⟨rfl, hlt⟩]
      have hlt2 : (n : Int) < nk := by omega
      clear HFV HV hAne
      go_enter Tryd.func50, Tryd.ntmps50
      go_wp2
      refine bodyPost_ret (v := .agg #[.int .i64 5, .int .i64 m, .string ⟨s.toArray⟩, .slice (some ⟨b, o, none⟩) n n, .slice B ny cb]) (by simp only [results, Tryd.results50]; go_simp) rfl ?_
      exact ⟨_, rfl, HF.out, ((Below.refl _ w).alloc (Nat.le_refl _) _).alloc (by simp) _⟩
    · rw [if_neg (fun h => hlt h.2)]
      have hlt2 : ¬ (n : Int) < nk := by omega
      clear HFV hAne
      go_enter Tryd.func50, Tryd.ntmps50
      go_wp2
      refine bodyPost_ret (v := .agg #[.int .i64 5, .int .i64 m, .string ⟨s.toArray⟩, .slice A nk ca, .slice B ny cb]) (by simp only [results, Tryd.results50]; go_simp) rfl ?_
      exact ⟨_, rfl, HV.out, ((Below.refl _ w).alloc (Nat.le_refl _) _).alloc (by simp) _⟩
  · rw [if_neg (fun h => hk h.1)]
    have hk5 : (k == 5) = false := by simp [hk]
    clear HFV hAne
    go_enter Tryd.func50, Tryd.ntmps50
    go_wp2
    refine bodyPost_ret (v := .agg #[.int .i64 k, .int .i64 m, .string ⟨s.toArray⟩, .slice A nk ca, .slice B ny cb]) (by simp only [results, Tryd.results50]; go_simp) rfl ?_
    exact ⟨_, rfl, HV.out, ((Below.refl _ w).alloc (Nat.le_refl _) _).alloc (by simp) _⟩
/-- what Front tells -/
noncomputable def frontI (v : JV) (n : Int) : JV × Int := if n < 0 then (jZero, 2) else (frontJ v n.toNat, 0)
noncomputable def frontO (v : JV) (n : Int) : JV × Int := if good v = true then frontI v n else (jZero, 140)
def FrontRet (r : JV × Int) (w0 : World) (e : Ending) : Prop := ∃ cs', e = .returned (.tuple #[.agg cs'.toArray, .int .i64 r.2]) ∧ VR w0 TT cs' r.1
set_option maxRecDepth 100000 in
set_option maxHeartbeats 4000000 in
theorem cFront1 (v : JV) (n : Int) (cs : List Value) (g g' : Nat) (F : Nat → Prop) (w0 w : World) (hv : VR w0 F cs v) (hC : Came v) (hn : iw n) (hB : Blk w g 3 #[.int .i64 n]) (hB' : Blk w g' 28 cs.toArray) :
    Calls Tryd.prog 49 #[.pointer (some ⟨g, 0, none⟩), .pointer (some ⟨g', 0, none⟩)] w fun e w' => FrontRet (frontI v n) w0 e ∧ Below w.heap.size w w' := by
  obtain ⟨c1, f1, l1⟩ := hB.rules
  obtain ⟨c2, f2, l2⟩ := hB'.rules
  have hb0 := (Below.refl w.heap.size w).alloc (Nat.le_refl _) (.cells #[.int .i64 0, .int .i64 0, .string ⟨#[]⟩, .slice none 0 0, .slice none 0 0] 28)
  have hk0 := Blk.new w 28 #[.int .i64 0, .int .i64 0, .string ⟨#[]⟩, .slice none 0 0, .slice none 0 0]
  have HB0 := Lib.hid hb0
  have HK0 := Lib.hid hk0
  by_cases h0 : n < 0
  · have HZ := HB0
    have HR := Lib.hid (show FrontRet (frontI v n) w0 (.returned (.tuple #[.agg #[.int .i64 0, .int .i64 0, .string ⟨#[]⟩, .slice none 0 0, .slice none 0 0], .int .i64 2])) by
      unfold frontI; rw [if_pos h0]; exact ⟨_, rfl, VR.zero⟩)
    clear hv hC hb0 hk0 hB hB'
    go_enter Tryd.func49, Tryd.ntmps49
    go_wp2
    refine bodyPost_ret (v := .tuple #[.agg #[.int .i64 0, .int .i64 0, .string ⟨#[]⟩, .slice none 0 0, .slice none 0 0], .int .i64 2]) (by simp only [results, Tryd.results49]; go_simp) rfl ?_
    exact ⟨HR.out, HZ.out⟩
  · obtain ⟨m, rfl⟩ : ∃ m : Nat, n = (m : Int) := ⟨n.toNat, by omega⟩
    have HR := Lib.hid (fun cs' (h : VR w0 TT cs' (frontJ v m)) => show FrontRet (frontI v m) w0 (.returned (.tuple #[.agg cs'.toArray, .int .i64 0])) by
      unfold frontI; rw [if_neg h0]; exact ⟨_, rfl, h⟩)
    have HF := Lib.hid (fun W => cFront0 v m cs F w0 W hv hC)
    have h5 := hv.form
    obtain ⟨k0, n0, s0, A0, na0, ca0, B0, nb0, cb0, rfl⟩ := h5
    clear hv hC hb0 hk0 hB hB' hn
    go_enter Tryd.func49, Tryd.ntmps49
    go_wp2_with fail
    refine (HF.out _).mono ?_
    rintro e w1 ⟨cs', rfl, hv', hb1⟩
    have h5 := hv'.form
    obtain ⟨k1, n1, s1, A1, na1, ca1, B1, nb1, cb1, rfl⟩ := h5
    have hk1 := HK0.out.keep hb1
    have hb2 := HB0.out.trans (hb1.mono HB0.out.size)
    have HZ := Lib.hid (v5_bel hb2 (Nat.le_refl _) (.int .i64 k1) (.int .i64 n1) (.string s1) (.slice A1 na1 ca1) (.slice B1 nb1 cb1))
    have HQ := Lib.hid (v5_put hk1 (.int .i64 k1) (.int .i64 n1) (.string s1) (.slice A1 na1 ca1) (.slice B1 nb1 cb1))
    have HRR := Lib.hid (HR.out _ hv')
    obtain ⟨d1, e1, m1⟩ := hk1.rules
    clear hb1 hb2 hk1 hv' HF HR c1 f1 l1 c2 f2 l2
    go_wp2
    obtain ⟨c3, f3, l3⟩ := HQ.out.rules
    refine bodyPost_ret (v := .tuple #[.agg #[.int .i64 k1, .int .i64 n1, .string s1, .slice A1 na1 ca1, .slice B1 nb1 cb1], .int .i64 0]) (by simp only [results, Tryd.results49]; go_simp) rfl ?_
    exact ⟨HRR.out, HZ.out⟩
set_option maxRecDepth 100000 in
set_option maxHeartbeats 4000000 in
theorem cFront (v : JV) (n : Int) (cs : List Value) (F : Nat → Prop) (w : World) (hG : GOK w) (hv : VR w F cs v) (hC : Came v) (hn : iw n) :
    Calls Tryd.prog 30 #[.agg cs.toArray, .int .i64 n] w fun e w' => FrontRet (frontO v n) w e ∧ Below w.heap.size w w' := by
  have HV := Lib.hid hv.top
  obtain ⟨k0, n0, s0, A0, na0, ca0, B0, nb0, cb0, rfl⟩ := hv.form
  have HT := Lib.hid (fun (W : World) (hb : Below w.heap.size w W) (g ga gn : Nat) (t : TypeId)
      (h1 : Blk W g t #[.int .i64 k0, .int .i64 n0, .string s0, .slice A0 na0 ca0, .slice B0 nb0 cb0])
      (h2 : Blk W ga 28 #[.int .i64 k0, .int .i64 n0, .string s0, .slice A0 na0 ca0, .slice B0 nb0 cb0]) (h3 : Blk W gn 3 #[.int .i64 n]) =>
    toldV [v] (some ⟨g, 0, none⟩) 1 1 (.pointer (some ⟨gn, 0, none⟩)) (.pointer (some ⟨ga, 0, none⟩)) W (hG.keep hb) (RowV.blk (VRs.one_ (HV.out.bel hb)) (Nat.le_refl 1) h1) rfl (by intro x hx; simp at hx; rcases hx with rfl; exact hC) (by omega)
      (FrontRet (frontO v n) w)
      (fun ⟨x, hx, hng⟩ => by
        unfold frontO
        simp at hx
        subst hx
        rw [if_neg (show ¬ good x = true from hng)]
        exact ⟨_, rfl, VR.zero⟩)
      (fun hall W' hb' => by
        have hga : good v = true := hall v (by simp)
        refine (cFront1 v n _ gn ga TT w W' HV.out hC hn (h3.keep hb') (h2.keep hb')).mono ?_
        rintro e w' ⟨hr, hb2⟩
        have hr' : FrontRet (frontO v n) w e := by unfold frontO; rw [if_pos hga]; exact hr
        refine ⟨?_, hb2⟩
        obtain ⟨cs', rfl, hvr⟩ := hr
        obtain ⟨k1, n1, s1, A1, na1, ca1, B1, nb1, cb1, rfl⟩ := hvr.form
        exact ⟨_, _, _, _, _, _, _, _, _, _, rfl, hr'⟩))
  have hb1 := (Below.refl w.heap.size w).alloc (Nat.le_refl _) (.cells #[.int .i64 k0, .int .i64 n0, .string s0, .slice A0 na0 ca0, .slice B0 nb0 cb0] 28)
  have hb2 := hb1.alloc (by simp) (.cells #[.int .i64 n] 3)
  have hb3 := hb2.alloc (by simp; omega) (.cells #[.int .i64 0, .int .i64 0, .string ⟨#[]⟩, .slice none 0 0, .slice none 0 0] 28)
  have hA := ((Blk.new w 28 #[.int .i64 k0, .int .i64 n0, .string s0, .slice A0 na0 ca0, .slice B0 nb0 cb0]).alloc (.cells #[.int .i64 n] 3)).alloc (.cells #[.int .i64 0, .int .i64 0, .string ⟨#[]⟩, .slice none 0 0, .slice none 0 0] 28)
  have hN := (Blk.new (w.alloc (.cells #[.int .i64 k0, .int .i64 n0, .string s0, .slice A0 na0 ca0, .slice B0 nb0 cb0] 28)) 3 #[.int .i64 n]).alloc (.cells #[.int .i64 0, .int .i64 0, .string ⟨#[]⟩, .slice none 0 0, .slice none 0 0] 28)
  have hR := Blk.new ((w.alloc (.cells #[.int .i64 k0, .int .i64 n0, .string s0, .slice A0 na0 ca0, .slice B0 nb0 cb0] 28)).alloc (.cells #[.int .i64 n] 3)) 28 #[.int .i64 0, .int .i64 0, .string ⟨#[]⟩, .slice none 0 0, .slice none 0 0]
  rw [World.size_alloc] at hN
  rw [World.size_alloc, World.size_alloc] at hR
  have HB3 := Lib.hid hb3
  have HA := Lib.hid hA
  have HN := Lib.hid hN
  have HRR := Lib.hid hR
  clear hb1 hb2 hb3 hA hN hR hG hC HV hv hn
  have hmf : ∀ (fn : Fn) (first cap : Array Value) (w : World), (Instr.makeFunc fn first cap).run Tryd.prog w = .ok (.func fn first cap) w := fun _ _ _ _ => rfl
  have y1 : w.heap.size ≠ w.heap.size + 1 := by omega
  have y2 : w.heap.size + 1 ≠ w.heap.size := by omega
  go_enter Tryd.func30, Tryd.ntmps30
  go_wp2_with fail
  refine Calls.mono (HT.out _ (HB3.out.alloc HB3.out.size _) _ _ _ 28 ?h1 (HA.out.alloc _) (HN.out.alloc _)) ?_
  case h1 =>
    have h := Blk.new (((w.alloc (.cells #[.int .i64 k0, .int .i64 n0, .string s0, .slice A0 na0 ca0, .slice B0 nb0 cb0] 28)).alloc (.cells #[.int .i64 n] 3)).alloc (.cells #[.int .i64 0, .int .i64 0, .string ⟨#[]⟩, .slice none 0 0, .slice none 0 0] 28)) 28 #[.int .i64 k0, .int .i64 n0, .string s0, .slice A0 na0 ca0, .slice B0 nb0 cb0]
    rw [World.size_alloc, World.size_alloc, World.size_alloc] at h
    exact h
  rintro e w1 ⟨⟨cs', rfl, hvr⟩, hb1⟩
  obtain ⟨k1, n1, s1, A1, na1, ca1, B1, nb1, cb1, rfl⟩ := hvr.form
  obtain ⟨E, hE⟩ : ∃ E, (frontO v n).2 = E := ⟨_, rfl⟩
  have HF := Lib.hid (show FrontRet (frontO v n) w (.returned (.tuple #[.agg #[.int .i64 k1, .int .i64 n1, .string s1, .slice A1 na1 ca1, .slice B1 nb1 cb1], .int .i64 E])) from ⟨_, by rw [hE], hvr⟩)
  rw [hE]
  have hk1 := (HRR.out.alloc (.cells #[.int .i64 k0, .int .i64 n0, .string s0, .slice A0 na0 ca0, .slice B0 nb0 cb0] 28)).keep hb1
  have hb4 := (HB3.out.alloc HB3.out.size (.cells #[.int .i64 k0, .int .i64 n0, .string s0, .slice A0 na0 ca0, .slice B0 nb0 cb0] 28))
  have hb5 := hb4.trans (hb1.mono hb4.size)
  have HZ := Lib.hid (v5_bel hb5 (g := w.heap.size + 1 + 1) (by omega) (.int .i64 k1) (.int .i64 n1) (.string s1) (.slice A1 na1 ca1) (.slice B1 nb1 cb1))
  have HQ := Lib.hid (v5_put hk1 (.int .i64 k1) (.int .i64 n1) (.string s1) (.slice A1 na1 ca1) (.slice B1 nb1 cb1))
  obtain ⟨d1, e1, m1⟩ := hk1.rules
  clear hb1 hb4 hb5 hk1 hvr hE HT HA HN HRR HB3
  go_wp2
  obtain ⟨c3, f3, l3⟩ := HQ.out.rules
  refine bodyPost_ret (v := .tuple #[.agg #[.int .i64 k1, .int .i64 n1, .string s1, .slice A1 na1 ca1, .slice B1 nb1 cb1], .int .i64 E]) (by simp only [results, Tryd.results30]; go_simp) rfl ?_
  exact ⟨HF.out, HZ.out⟩
end Go.Proofs.YtoejdhabpajhlaaDoor
