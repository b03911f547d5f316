import Derived.Test.YtgolomgmnanbpaaGreatDoorZ11
import Derived.Test.YtgolomgmnanbpaaGreatDoorZ14
import Derived.Test.YtgolomgmnanbpaaGreatDoorZ05
import Derived.Test.YtgolomgmnanbpaaGreatDoorZ12
namespace Go.Proofs.YtgolomgmnanbpaaGreatDoor
set_option linter.unusedVariables false
set_option linter.unusedSimpArgs false
open Go.RowKit
attribute [local go_sem] run_index_arr run_part_agg run_part_one run_field_agg
def LisFP (F : Nat → Prop) (xs : List JV) (w : World) (e : Ending) (w' : World) : Prop := ∃ cs : Array Value, e = .returned (.tuple #[.agg cs, .int .i64 (if good (.mk 5 0 [] xs []) = true then 0 else 140)]) ∧
  (good (.mk 5 0 [] xs []) = true → VR w' (FN F w) cs.toList (.mk 5 0 [] xs [])) ∧ (¬ good (.mk 5 0 [] xs []) = true → cs = zeroCs) ∧ Below w.heap.size w w'
set_option maxRecDepth 100000 in
set_option maxHeartbeats 8000000 in
theorem vListF (css : List (List Value)) (xs : List JV) (F : Nat → Prop) (A : Option Addr) (n cap : Nat) (w : World) (hG : GOK w) (h1 : VRs w F css xs) (hn : xs.length = n) (hr : RdF w F A css.flatten) (hl : n ≤ 4194304) (hc : Came (.mk 5 0 [] xs [])) :
    Calls Tryz.prog 123 #[.slice A n cap] w (LisFP F xs w) := by
  have HB0 := Lib.hid ((Below.refl w.heap.size w).alloc (Nat.le_refl _) (.cells zeroCs 25))
  have HCL := Lib.hid (valClone_any css xs F A n cap _ (h1.below HB0.out) hn (hr.keep (KeepF.of_below HB0.out)) hl)
  have HV0 := Lib.hid (h1.mono (F' := fun b => (F b ∧ b < w.heap.size) ∨ w.heap.size < b) fun b hb hF => .inl ⟨hF, hb⟩)
  have HG := Lib.hid hG
  have HN := Lib.hid hn
  have HC := Lib.hid hc
  have HH0 := Lib.hid ((Held.nil w).push 25 zeroCs (g := w.heap.size) rfl)
  clear h1 hn hr hl hc hG
  have HNE := Lib.hid (fun (b : Nat) (h : (F b ∧ b < w.heap.size) ∨ w.heap.size < b) => show b ≠ w.heap.size by omega)
  have HTO := Lib.hid (fun (b : Nat) (h : (F b ∧ b < w.heap.size) ∨ w.heap.size < b) => show FN F w b from h.elim (fun h => .inl h.1) (fun h => .inr (by omega)))
  unfold zeroCs at HB0 HCL HH0
  go_enter Tryz.func123, Tryz.ntmps123
  go_wp2_with fail
  refine HCL.out.mono ?_
  rintro e w1 ⟨v1, rfl, hown, hb1⟩
  obtain ⟨A1, c1, rfl, hc1, hA1, hr1⟩ := own_parts hown
  have HH1 := Lib.hid (HH0.out.keep hb1)
  have HVL := Lib.hid (vr_list (F := fun b => (F b ∧ b < w.heap.size) ∨ w.heap.size < b) ((HV0.out).below HH1.out.1) HN.out hc1 hA1 (hr1.mono fun b _ hb => by simp at hb; exact .inr (by omega)))
  clear hb1 hown hc1 hA1 hr1 HH0 HCL HB0
  go_wp2_with fail
  refine (vWhole_any (.mk 5 0 [] xs []) [.int .i64 5, .int .i64 0, .string ⟨#[]⟩, .slice A1 n c1,   .slice none 0 0] _ w1 (HG.out.keep HH1.out.1) HVL.out HC.out).mono ?_
  rintro e w2 ⟨rfl, hb2⟩
  have HH2 := Lib.hid (HH1.out.keep hb2)
  have HVL2 := Lib.hid (HVL.out.bel hb2)
  clear hb2 HH1 HVL
  obtain ⟨c3, f3, l3⟩ := HH2.out.b0.rules
  by_cases hg : good (.mk 5 0 [] xs []) = true
  · unfold LisFP
    rw [if_pos hg, if_pos hg]
    go_wp2
    have hb5 := five_bel HH2.out.1 (g := w.heap.size) (Nat.le_refl _) (.int .i64 5) (.int .i64 0) (.string ⟨#[]⟩) (.slice A1 n c1) (.slice none 0 0)
    refine bodyPost_ret (v := .tuple #[.agg #[.int .i64 5, .int .i64 0, .string ⟨#[]⟩, .slice A1 n c1, .slice none 0 0], .int .i64 0]) (by simp only [results, Tryz.results123]; go_simp) rfl ?_
    exact ⟨_, by rw [if_pos hg], fun _ => (HVL2.out.keep (((((KeepF.refl.set HNE.out 0 _).set HNE.out 1 _).set HNE.out 2 _).set HNE.out 3 _).set HNE.out 4 _)).mono (fun b _ hb => HTO.out b hb), fun h => absurd hg h, hb5⟩
  · unfold LisFP
    rw [if_neg hg, if_neg hg]
    unfold zeroCs
    go_wp2
    refine bodyPost_ret (v := .tuple #[.agg #[.int .i64 0, .int .i64 0, .string ⟨#[]⟩, .slice none 0 0, .slice none 0 0], .int .i64 140]) (by simp only [results, Tryz.results123]; go_simp) rfl ?_
    exact ⟨zeroCs, by rw [if_neg hg]; rfl, fun h => absurd h hg, fun _ => rfl, five_bel HH2.out.1 (Nat.le_refl _) _ _ _ _ _⟩
end Go.Proofs.YtgolomgmnanbpaaGreatDoor
namespace Go.Proofs.YtgolomgmnanbpaaGreatDoor
set_option linter.unusedVariables false
set_option linter.unusedSimpArgs false
open Go.RowKit
attribute [local go_sem] run_index_arr run_part_agg run_part_one run_field_agg
def FO (G : Nat → Prop) (row : Value) (b : Nat) : Prop := G b ∧ some b ≠ row.ownBlock
theorem vrs_growG {w w2 : World} {G : Nat → Prop} {row row2 : Value} {css : List (List Value)} {kids : List JV} (h : VRs w (FO G row) css kids) (hg : w.grownBy w2 row.ownBlock) (ho : row2.ownBlock = row.ownBlock ∨ row2.ownBlock = some w.heap.size) :
    VRs w2 (FO G row2) css kids := by
  have h1 : VRs w (fun b => FO G row b ∧ b < w.heap.size) css kids := h.mono fun b hb hF => ⟨hF, hb⟩
  have h2 : VRs w2 (fun b => FO G row b ∧ b < w.heap.size) css kids := h1.keep (KeepF.of_grown hg fun b hb => hb.1.2)
  refine h2.mono fun b _ hF => ⟨hF.1.1, fun e => ?_⟩
  rcases ho with ho | ho
  · exact hF.1.2 (by rw [e, ho])
  · rw [ho] at e
    have : b = w.heap.size := by injection e
    omega
theorem Held.grown {L : List (Nat × TypeId × Array Value)} {w0 W W' : World} {r : Option Nat} (h : Held L w0 W) (hg : W.grownBy W' r) (hr : ∀ k, r = some k → w0.heap.size ≤ k) (hL : ∀ x ∈ L, some x.1 ≠ r) : Held L w0 W' :=
  ⟨h.1.grown hg h.1.size hr, fun x hx => (h.2 x hx).grown hg (hL x hx)⟩
theorem allS_some : ∀ xs : List JV, allS (xs.map some) = some xs
  | [] => rfl
  | x :: r => by rw [List.map_cons, allS, allS_some r]
theorem allS_none : ∀ {l : List (Option JV)}, none ∈ l → allS l = none
  | none :: r, _ => rfl
  | some v :: r, h => by
    rw [allS, allS_none (l := r) (by simpa using h)]
theorem came_good {xs : List JV} (h : ∀ x ∈ xs, Came x ∧ good x = true) (hn : xs.length ≤ 16000) : Came (jArr xs) := by
  have hnod : ∀ l : List JV, (∀ x ∈ l, good x = true) → nodesL l ≤ 256 * l.length := by
    intro l
    induction l with
    | nil => intro _; simp [nodesL]
    | cons x r ih =>
      intro hg
      have h1 := (good_J (hg x List.mem_cons_self)).2
      have h2 := ih (fun y hy => hg y (List.mem_cons_of_mem _ hy))
      rw [nodesL, List.length_cons]
      omega
  have h3 := hnod xs (fun x hx => (h x hx).2)
  refine ⟨?_, ?_, ?_⟩
  · unfold jArr inJ
    exact ⟨by unfold iw; omega, by unfold iw; omega, inL_iff.2 fun x hx => (h x hx).1.ints⟩
  · unfold jArr nodesJ; omega
  · unfold jArr lenJ
    exact ⟨by simp, by omega, by simp, by simp, lenL_iff.2 fun x hx => (h x hx).1.lens⟩
def listJ (l : List (Option JV)) : Option JV := match allS l with | some xs => if good (jArr xs) = true then some (jArr xs) else none | none => none
theorem infoVal9 : (Tryz.prog.info? 25).map (fun i => (i.zero, i.size, i.bytes)) = some (some (.agg #[.int .i64 0, .int .i64 0, .string ⟨#[]⟩, .slice none 0 0, .slice none 0 0]), 5, 80) := by kernel_rfl
set_option maxRecDepth 100000 in
set_option maxHeartbeats 8000000 in
theorem mList {pv : Value} {F : Nat → Prop} {env : List (List UInt8 × JV)} {w : World} {k : Int} {v : JV} {s : List UInt8} {kids : List EJ} {cs : List Value} (hG : GOE w) (hF : ∀ b, F b → b < w.heap.size) (hk : ∀ y ∈ kids, KidC pv F env w y) (hx : ER w F cs (.mk k v s kids)) (hn : kids.length ≤ 16000) :
    Calls Tryz.prog 74 #[pv, .agg cs.toArray] w (ExP (listJ (kids.map (evE env))) F w) := by
  obtain ⟨k1, n1, s1, A1, na1, ca1, B1, nb1, cb1, A, ca, css0, rfl, hv, h1, h2, h3, h4⟩ := hx.out
  have HKD := Lib.hid (And.intro h1 h4)
  have HKC := Lib.hid hk
  obtain ⟨nr, hnr⟩ : ∃ q, kids.length = q := ⟨_, rfl⟩
  have HNR := Lib.hid hnr
  rw [hnr] at h2 hn ⊢
  have HH0 := Lib.hid (((Held.nil w).push 28 #[.int .i64 k, .int .i64 k1, .int .i64 n1, .string s1, .slice A1 na1 ca1, .slice B1 nb1 cb1, .string ⟨s.toArray⟩, .slice A nr ca] (g := w.heap.size) rfl).push 25 #[.int .i64 0, .int .i64 0, .string ⟨#[]⟩, .slice none 0 0, .slice none 0 0] (g := w.heap.size + 1) (by simp))
  have HG := Lib.hid hG
  have HFF := Lib.hid hF
  obtain ⟨i0, hi, hz0, hz1, hz2⟩ := info_parts infoVal9
  have HI := Lib.hid hi
  obtain ⟨W0, hW0⟩ : ∃ W0 : World, W0.heap.size = w.heap.size + 2 := ⟨(w.alloc (.cells #[] 25)).alloc (.cells #[] 25), by simp⟩
  have HW0 := Lib.hid hW0
  clear hW0 hk hx hv h1 h2 h3 h4 hnr hG hF hi
  obtain ⟨c0, f0, l0⟩ := HH0.out.b1.rules
  go_enter Tryz.func74, Tryz.ntmps74
  go_wp2
  clear c0 f0 l0
  go_loopg [6, 16] nr (fun gk s6 s16 wr => ∃ (i : Nat) (row : Value) (xs : List JV) (css : List (List Value)), row = s6 ∧ i ≤ nr ∧ gk = nr - i ∧ s16 = .int .i64 (i : Int) ∧
    Hid (Held [(w.heap.size + 1, 25, #[.int .i64 0, .int .i64 0, .string ⟨#[]⟩, .slice none 0 0, .slice none 0 0]), (w.heap.size, 28, #[.int .i64 k, .int .i64 k1, .int .i64 n1, .string s1, .slice A1 na1 ca1, .slice B1 nb1 cb1, .string ⟨s.toArray⟩, .slice A nr ca])] w wr) ∧
    Hid (wr.ownsRow (w.heap.size + 2) 25 5 row i css.flatten) ∧ Hid (VRs wr (FO (FN F W0) row) css xs) ∧ Hid (xs.length = i ∧ (kids.take i).map (evE env) = xs.map some ∧ ∀ x ∈ xs, Came x ∧ good x = true))
  case atStart => exact ⟨0, _, [], [], rfl, Nat.zero_le _, by go_num, rfl, HH0, Lib.hid (World.ownsRow_nil _ _ _ _), Lib.hid VRs.nil, Lib.hid ⟨rfl, rfl, fun x hx => by cases hx⟩⟩
  case round =>
    obtain ⟨i, row, xs, css, rfl, hin, hgk, rfl, HH, HO, HV, HX⟩ := hrel
    have HGK := Lib.hid hgk
    clear hgk HH0
    by_cases hlt : i < nr
    · obtain ⟨x, hx⟩ : ∃ x, kids[i]? = some x := ⟨_, List.getElem?_eq_getElem (by rw [HNR.out]; exact hlt)⟩
      have hxm := List.mem_of_getElem? hx
      obtain ⟨b, o, k', k1', n1', s1', A1', na1', ca1', B1', nb1', cb1', s', A2', n2', ca2', rfl, hb, hER, hz⟩ := kid_cellsE HKD.out.1 HKD.out.2 hx
      obtain ⟨z0, z1, z2, z3, z4, z5, z6, z7⟩ := hz wr HH.out.1
      have HTK := Lib.hid (show kids.take (i + 1) = kids.take i ++ [x] by rw [List.take_add_one, hx]; rfl)
      have HXN := Lib.hid (show evE env x = none → listJ (kids.map (evE env)) = none from fun h0 => by
        unfold listJ; rw [allS_none (List.mem_map.2 ⟨x, hxm, h0⟩)])
      have HE := Lib.hid (fun (W : World) (h : Below w.heap.size w W) => HKC.out x hxm W _ h (hER.bel h))
      have hlb : b < wr.heap.size := Nat.lt_of_lt_of_le hb HH.out.1.size
      have HP := Lib.hid ((HH.out).push 28 #[.int .i64 k', .int .i64 k1', .int .i64 n1', .string s1', .slice A1' na1' ca1', .slice B1' nb1' cb1', .string s', .slice A2' n2' ca2'] (g := wr.heap.size) rfl)
      have HO1 := Lib.hid (HO.out.alloc (.cells #[.int .i64 k', .int .i64 k1', .int .i64 n1', .string s1', .slice A1' na1' ca1', .slice B1' nb1' cb1', .string s', .slice A2' n2' ca2'] 28))
      have HV1 := Lib.hid (HV.out.below ((Below.refl _ wr).alloc (Nat.le_refl _) (.cells #[.int .i64 k', .int .i64 k1', .int .i64 n1', .string s1', .slice A1' na1' ca1', .slice B1' nb1' cb1', .string s', .slice A2' n2' ca2'] 28)))
      clear hz hER hx hxm hb
      go_wp2_with fail
      refine (HE.out _ HP.out.1).mono ?_
      rintro e w4 ⟨cs4, v4, b4, rfl, hv4, hc4, ho4, hg4, hb4⟩
      clear z0 z1 z2 z3 z4 z5 z6 z7
      have HV4 := Lib.hid hv4
      obtain ⟨k5, n5, s5, A5, na5, ca5, B5, nb5, cb5, rfl⟩ := hv4.form
      have HQ4 := Lib.hid (And.intro hc4 (And.intro ho4 hg4))
      have hsz : wr.heap.size < w4.heap.size := by have := hb4.size; simp at this; omega
      obtain ⟨W5, hW5⟩ : ∃ W5, w4.alloc (.cells #[.int .i64 k5, .int .i64 n5, .string s5, .slice A5 na5 ca5, .slice B5 nb5 cb5] 25) = W5 := ⟨_, rfl⟩
      have h45 : Below w4.heap.size w4 W5 := by rw [← hW5]; exact (Below.refl _ w4).alloc (Nat.le_refl _) _
      have HP5 := Lib.hid (show Held ((w4.heap.size, 25, #[.int .i64 k5, .int .i64 n5, .string s5, .slice A5 na5 ca5, .slice B5 nb5 cb5]) :: _) w W5 by rw [← hW5]; exact (HP.out.keep hb4).push 25 #[.int .i64 k5, .int .i64 n5, .string s5, .slice A5 na5 ca5, .slice B5 nb5 cb5] (g := w4.heap.size) rfl)
      have HO5 := Lib.hid (ownBel (ownBel HO1.out hb4) h45)
      have HV5 := Lib.hid ((HV1.out.below hb4).below h45)
      have HX5 := Lib.hid (HV4.out.bel h45)
      have HS5 := Lib.hid (show W5.heap.size = w4.heap.size + 1 by rw [← hW5]; simp)
      have HW5 := Lib.hid hW5
      have hwr2 : w.heap.size + 2 ≤ wr.heap.size := HH.out.b0.lt
      clear hv4 hc4 ho4 hg4 hb4 h45 hW5
      cases b4
      · go_wp2_with fail
        rw [HW5.out]
        refine (mNone _).mono ?_
        rintro e wn ⟨rfl, hbn⟩
        have HHN := Lib.hid (HP5.out.keep hbn)
        clear hbn
        obtain ⟨c1, f1, l1⟩ := HHN.out.b2.rules
        go_wp2
        refine bodyPost_ret (v := .tuple #[.agg #[.int .i64 0, .int .i64 0, .string ⟨#[]⟩, .slice none 0 0, .slice none 0 0], .bool false]) (by simp only [results, Tryz.results74]; go_simp) rfl ?_
        exact ExP.none_ (w1 := w) (HXN.out (by rw [HQ4.out.2.1]; rfl)) (five_bel HHN.out.1 (by omega) _ _ _ _ _)
      · have HXG := Lib.hid (And.intro HQ4.out.1 (HQ4.out.2.2 rfl))
        have HOE := Lib.hid (show evE env x = some v4 by rw [HQ4.out.2.1]; rfl)
        have HRW := Lib.hid (fun (j : Nat) (e : row.ownBlock = some j) => HO.out.lt j e)
        go_upto_region 8 with (fail)
        rw [HW5.out]
        obtain ⟨c0, f0, l0⟩ := HP5.out.b0.rules
        have hO6 := Lib.hid (HO5.out.alloc (.cells #[.int .i64 k5, .int .i64 n5, .string s5, .slice A5 na5 ca5, .slice B5 nb5 cb5] 25))
        have hR6 := Lib.hid (Rd.of_blk (Blk.new W5 25 #[.int .i64 k5, .int .i64 n5, .string s5, .slice A5 na5 ca5, .slice B5 nb5 cb5]))
        have H1C := Lib.hid (show ∀ u ∈ ([.int .i64 k5, .int .i64 n5, .string s5, .slice A5 na5 ca5, .slice B5 nb5 cb5] : List Value), u.oneCell' = true from HV4.out.one)
        have HBS := Lib.hid (show w.heap.size + 2 ≤ (W5.alloc (.cells #[.int .i64 k5, .int .i64 n5, .string s5, .slice A5 na5 ca5, .slice B5 nb5 cb5] 25)).heap.size by rw [World.size_alloc, HS5.out]; omega)
        go_wp2_with (at_builtin; refine wpList_append_rd _ rfl _ _ 22 rfl (w.heap.size + 2) 25 i0 _ 5 80 Tryz.underlying22 HI.out hz0 hz1 hz2 rfl (by decide) row i css.flatten rfl hO6.out (some ⟨W5.heap.size, 0, none⟩) 1 1 (fun h => by cases h) [.int .i64 k5, .int .i64 n5, .string s5, .slice A5 na5 ca5, .slice B5 nb5 cb5] rfl rfl hR6.out H1C.out (by unfold maxLen; omega) (by omega) HBS.out ?_; intro row2 w6 hown6 hgr6 hob6)
        have hHH : Held [(w.heap.size + 1, 25, #[.int .i64 0, .int .i64 0, .string ⟨#[]⟩, .slice none 0 0, .slice none 0 0]), (w.heap.size, 28, #[.int .i64 k, .int .i64 k1, .int .i64 n1, .string s1, .slice A1 na1 ca1, .slice B1 nb1 cb1, .string ⟨s.toArray⟩, .slice (some ⟨b, o, none⟩) nr ca])] w w6 := by
          refine ((HP5.out.pop.pop).alloc _).grown hgr6 (fun j e => by have := HRW.out j e; omega) (fun y hy e => ?_)
          simp only [List.mem_cons, List.not_mem_nil, or_false] at hy
          rcases hy with rfl | rfl
          · have := HRW.out _ e.symm; omega
          · have := HRW.out _ e.symm; omega
        have hVV : VRs w6 (FO (FN F W0) row2) (css ++ [([.int .i64 k5, .int .i64 n5, .string s5, .slice A5 na5 ca5, .slice B5 nb5 cb5] : List Value)]) (xs ++ [v4]) := by
          refine vrs_growG ?_ hgr6 hob6
          refine (HV5.out.below ((Below.refl _ _).alloc (Nat.le_refl _) _)).snoc ((HX5.out.bel ((Below.refl _ _).alloc (Nat.le_refl _) _)).mono fun b' _ hb' => ?_)
          have hw0 := HW0.out
          rcases hb' with hb' | hb'
          · exact ⟨.inl hb', fun e => by have := HRW.out _ e.symm; have := HFF.out _ hb'; omega⟩
          · simp at hb'
            exact ⟨.inr (by omega), fun e => by have := HRW.out _ e.symm; omega⟩
        have hOO : w6.ownsRow (w.heap.size + 2) 25 5 row2 (i + 1) (css ++ [([.int .i64 k5, .int .i64 n5, .string s5, .slice A5 na5 ca5, .slice B5 nb5 cb5] : List Value)]).flatten := by
          rw [List.flatten_append]; simpa using hown6
        have hXX : (xs ++ [v4]).length = i + 1 ∧ (kids.take (i + 1)).map (evE env) = (xs ++ [v4]).map some ∧ ∀ x ∈ xs ++ [v4], Came x ∧ good x = true := by
          obtain ⟨a1, a2, a3⟩ := HX.out
          refine ⟨by rw [List.length_append, a1]; rfl, by rw [HTK.out, List.map_append, a2, List.map_append]; simp [HOE.out], fun y hy => ?_⟩
          rcases List.mem_append.1 hy with hy | hy
          · exact a3 y hy
          · obtain rfl : y = v4 := by simpa using hy
            exact HXG.out
        have H9 := Lib.hid (And.intro hHH (And.intro hOO (And.intro hVV hXX)))
        clear hHH hOO hVV hXX hown6 hgr6 hob6 c0 f0 l0
        go_roundg (nr - (i + 1))
        case measure => have := HGK.out; omega
        case rel => exact ⟨i + 1, row2, _, _, rfl, by omega, rfl, by go_num, Lib.hid H9.out.1, Lib.hid H9.out.2.1, Lib.hid H9.out.2.2.1, Lib.hid H9.out.2.2.2⟩
    · obtain rfl : i = nr := by omega
      obtain ⟨RA, rc, rfl, hrc, hrn, hrr⟩ := own_parts HO.out
      obtain ⟨a1, a2, a3⟩ := HX.out
      have hall : kids.map (evE env) = xs.map some := by rw [← a2, List.take_of_length_le (Nat.le_of_eq HNR.out)]
      have HOP := Lib.hid (show listJ (kids.map (evE env)) = if good (jArr xs) = true then some (jArr xs) else none by unfold listJ; rw [hall, allS_some])
      have hcl : Came (jArr xs) := came_good a3 (by omega)
      have HCL := Lib.hid hcl
      have hw0 := HW0.out
      have HLI := Lib.hid (vListF css xs (FN F W0) RA i rc wr (HG.out.keep HH.out.1).gok (HV.out.mono fun b _ h => h.1) a1 (hrr.mono fun b _ h => .inr (by omega)) (by omega) hcl)
      clear a1 a2 a3 hall hcl hrc hrn hrr
      go_wp2_with fail
      refine HLI.out.mono ?_
      rintro e w4 ⟨cs4, rfl, hvg, hvn, hb4⟩
      by_cases hg : good (jArr xs) = true
      · have hg' : good (.mk 5 0 [] xs []) = true := hg
        have hv4 := hvg hg'
        rw [if_pos hg']
        obtain ⟨k5, n5, s5, A5, na5, ca5, B5, nb5, cb5, hf⟩ := hv4.form
        obtain rfl : cs4 = #[.int .i64 k5, .int .i64 n5, .string s5, .slice A5 na5 ca5, .slice B5 nb5 cb5] := by rw [← Array.toArray_toList (xs := cs4)]; exact congrArg List.toArray hf
        have HP4 := Lib.hid ((HH.out.keep hb4).push 25 #[.int .i64 k5, .int .i64 n5, .string s5, .slice A5 na5 ca5, .slice B5 nb5 cb5] (g := w4.heap.size) rfl)
        have HV4 := Lib.hid ((hv4.bel ((Below.refl _ w4).alloc (Nat.le_refl _) (.cells #[.int .i64 k5, .int .i64 n5, .string s5, .slice A5 na5 ca5, .slice B5 nb5 cb5] 25))).mono (F' := FN F W0) fun b _ hb => by
          rcases hb with (hb | hb) | hb
          · exact .inl hb
          · exact .inr hb
          · exact .inr (by have := HH.out.b0.lt; omega))
        have hne : w4.heap.size ≠ w.heap.size + 1 := by have := HH.out.b0.lt; have := hb4.size; omega
        have hne2 : w.heap.size + 1 ≠ w4.heap.size := hne.symm
        have HG5 := Lib.hid (show listJ (kids.map (evE env)) = some (jArr xs) by rw [HOP.out, if_pos hg])
        have HGG := Lib.hid hg
        clear hvg hvn hb4 hf hv4 hg hg'
        obtain ⟨c0, f0, l0⟩ := HP4.out.b0.rules
        obtain ⟨c1, f1, l1⟩ := HP4.out.b1.rules
        go_wp2
        refine bodyPost_ret (v := .tuple #[.agg #[.int .i64 k5, .int .i64 n5, .string s5, .slice A5 na5 ca5, .slice B5 nb5 cb5], .bool true]) (by simp only [results, Tryz.results74]; go_simp) rfl ?_
        refine ⟨_, jArr xs, true, rfl, ?_, HCL.out, by rw [HG5.out]; rfl, fun _ => HGG.out, five_bel HP4.out.1 (by omega) _ _ _ _ _⟩
        exact HV4.out.out5 HFF.out (by rw [HW0.out]; omega) (g := w.heap.size + 1) (by omega) (by rw [HW0.out]; omega) _ _ _ _ _
      · have hg' : ¬ good (.mk 5 0 [] xs []) = true := hg
        rw [if_neg hg']
        obtain rfl := hvn hg'
        have HP4 := Lib.hid ((HH.out.keep hb4).push 25 #[.int .i64 0, .int .i64 0, .string ⟨#[]⟩, .slice none 0 0, .slice none 0 0] (g := w4.heap.size) rfl)
        have hne : w4.heap.size ≠ w.heap.size + 1 := by have := HH.out.b0.lt; have := hb4.size; omega
        have hne2 : w.heap.size + 1 ≠ w4.heap.size := hne.symm
        have HG5 := Lib.hid (show listJ (kids.map (evE env)) = none by rw [HOP.out, if_neg hg])
        clear hvg hvn hb4 hg hg'
        unfold zeroCs
        obtain ⟨c0, f0, l0⟩ := HP4.out.b0.rules
        obtain ⟨c1, f1, l1⟩ := HP4.out.b1.rules
        go_wp2
        refine bodyPost_ret (v := .tuple #[.agg #[.int .i64 0, .int .i64 0, .string ⟨#[]⟩, .slice none 0 0, .slice none 0 0], .bool false]) (by simp only [results, Tryz.results74]; go_simp) rfl ?_
        exact ExP.none_ (w1 := w) HG5.out (five_bel HP4.out.1 (by omega) _ _ _ _ _)
end Go.Proofs.YtgolomgmnanbpaaGreatDoor
namespace Go.Proofs.YtgolomgmnanbpaaGreatDoor
set_option linter.unusedVariables false
set_option linter.unusedSimpArgs false
open Go.RowKit Go.Shelf
attribute [local go_sem] run_index_arr run_part_agg run_part_one run_field_agg
abbrev BnV := (List UInt8 × JV) × Array Value
def encB (x : BnV) : Array Value := #[.agg x.2]
def AdmB (w0 : World) (F : Nat → Prop) (env : List (List UInt8 × JV)) (pre : List BnV) (x : BnV) : Prop := BnR w0 F x.2.toList x.1 ∧ (pre ++ [x]).map Prod.fst <+: env.reverse
theorem kid_cellsB {W : World} {F : Nat → Prop} {css : List (List Value)} {xs : List (List UInt8 × JV)} {A : Option Addr} (h : BnRs W F css xs) (hr : RdF W F A css.flatten) {i : Nat} {x : List UInt8 × JV} (hx : xs[i]? = some x) :
    ∃ (b o : Nat) (k n : Int) (s : ByteArray) (A' : Option Addr) (na ca : Nat) (B' : Option Addr) (nb cb : Nat), A = some ⟨b, o, none⟩ ∧ b < W.heap.size ∧ F b ∧ VR W F [.int .i64 k, .int .i64 n, .string s, .slice A' na ca, .slice B' nb cb] x.2 ∧
      ∀ W', KeepF F W W' → W'.cell? ⟨b, o + i * 6, none⟩ = some (.string ⟨x.1.toArray⟩) ∧ W'.cell? ⟨b, o + i * 6 + 1, none⟩ = some (.int .i64 k) ∧ W'.cell? ⟨b, o + i * 6 + 2, none⟩ = some (.int .i64 n) ∧ W'.cell? ⟨b, o + i * 6 + 3, none⟩ = some (.string s) ∧ W'.cell? ⟨b, o + i * 6 + 4, none⟩ = some (.slice A' na ca) ∧ W'.cell? ⟨b, o + i * 6 + 5, none⟩ = some (.slice B' nb cb) := by
  obtain ⟨b, o, c, rfl, hb, hFb, hc, hv, hz⟩ := h.cell (fun c x h => h.len) (by decide) hr hx
  obtain ⟨vcs, rfl, hvr⟩ := hv
  obtain ⟨k, n, s, A', na, ca, B', nb, cb, rfl⟩ := hvr.form
  refine ⟨b, o, k, n, s, A', na, ca, B', nb, cb, rfl, hb, hFb, hvr, fun W' hW => ?_⟩
  have z := fun (j : Nat) u (hj : j < 6) hu => (World.cell?_of_block (w := W) (a := ⟨b, o + (i * 6 + j), none⟩) (hW.2 b hFb hb)).trans (hz j u hj hu)
  exact ⟨z 0 _ (by decide) rfl, z 1 _ (by decide) rfl, z 2 _ (by decide) rfl, z 3 _ (by decide) rfl, z 4 _ (by decide) rfl, z 5 _ (by decide) rfl⟩
theorem mBackward (mb : Nat) (w : World) :
    Calls Tryz.prog 121 #[.pointer (some ⟨mb, 0, none⟩)] w fun e w' => e = .returned (.func (.func 164) #[] #[.pointer (some ⟨w.heap.size, 0, none⟩)]) ∧ w.alloc (.cells #[.pointer (some ⟨mb, 0, none⟩)] 84) = w' := by
  have hmf : ∀ (fn : Fn) (first cap : Array Value) (w : World), (Instr.makeFunc fn first cap).run Tryz.prog w = .ok (.func fn first cap) w := fun _ _ _ _ => rfl
  go_enter Tryz.func121, Tryz.ntmps121
  go_wp2
  go_ret
  exact ⟨rfl, rfl⟩
theorem rev_snoc {α : Type} {l : List α} {j : Nat} {x : α} (hx : l[j]? = some x) : l.reverse.take (l.length - j) = l.reverse.take (l.length - (j + 1)) ++ [x] := by
  have hlt : j < l.length := (List.getElem?_eq_some_iff.1 hx).1
  have e : l.length - j = l.length - (j + 1) + 1 := by omega
  rw [e, List.take_add_one]
  congr 1
  rw [List.getElem?_reverse (by omega), show l.length - 1 - (l.length - (j + 1)) = j by omega, hx]
  rfl
set_option maxRecDepth 100000 in
set_option maxHeartbeats 4000000 in
theorem back1_any (l : Nat) (w0 : World) (C : Nat → Prop) (F : Nat → Prop) (env : List (List UInt8 × JV)) (ecs : List (List Value)) (mb vb n ec : Nat) (EA : Option Addr) (p mv : Value) (J Jx : List BnV → World → Prop) (W : World) (hC0 : ∀ k, C k → w0.heap.size ≤ k) (hvC : ¬ C vb)
    (hMB : Blk w0 mb 88 #[p, .slice EA n ec, mv]) (hE : BnRs w0 F ecs env) (hn : env.length = n) (hnc : n ≤ ec) (hr : RdF w0 F EA ecs.flatten) (hlen : n ≤ 4194304)
    (hY : ∀ pre x W1, J pre W1 → AdmB w0 F env pre x → YieldAt Fence.wide 1 Tryz.prog l (encB x) W1 fun e W' => (e = .returned (.bool true) ∧ J (pre ++ [x]) W' ∧ KpC C w0.heap.size W1 W') ∨ (e = .returned (.bool false) ∧ Jx (pre ++ [x]) W' ∧ KpC C w0.heap.size W1 W'))
    (hK : KeepF AllT w0 W) (hvb : Blk W vb 84 #[.pointer (some ⟨mb, 0, none⟩)]) (hJ0 : J [] W) :
    CallsIn Fence.wide 2 Tryz.prog 164 #[.func (.yield l) #[] #[], .pointer (some ⟨vb, 0, none⟩)] W fun e W' => (∃ v, e = .returned v) ∧ ((∃ xs, xs.map Prod.fst = env.reverse ∧ J xs W') ∨ (∃ pre, True ∧ Jx pre W')) := by
  have HMB := Lib.hid hMB
  have HK := Lib.hid hK
  have HE := Lib.hid (And.intro hE hr)
  have HN := Lib.hid hn
  have HVB := Lib.hid hvb
  have HY := Lib.hid hY
  have HC0 := Lib.hid (And.intro hC0 hvC)
  have HJ0 := Lib.hid hJ0
  have hmW : Blk W mb 88 #[p, .slice EA n ec, mv] := (hK.2 mb trivial hMB.lt).trans hMB
  obtain ⟨c0, f0, l0⟩ := hvb.rules
  obtain ⟨c1, f1, l1⟩ := hmW.rules
  clear hMB hK hE hr hn hvb hY hC0 hvC hJ0 hmW
  refine callsIn_of_wp Tryz.func164 rfl trivial ?_ rfl
  simp only [Tryz.ntmps164, List.size_toArray, List.length_cons, List.length_nil, Nat.reduceAdd, Nat.reduceSub, Array.replicate_succ, Array.replicate_zero, List.push_toArray, List.append_toArray, List.nil_append, List.cons_append]
  gi_wp2
  clear c0 f0 l0 c1 f1 l1
  gi_loopg [3] n (fun gk s3 wr => ∃ (i : Nat) (pre : List BnV), i ≤ n ∧ gk = i ∧ s3 = .int .i64 (i : Int) ∧ Hid (pre.map Prod.fst = env.reverse.take (n - i)) ∧ Hid (J pre wr) ∧ Hid (KpC C w0.heap.size W wr))
  case atStart => exact ⟨n, [], Nat.le_refl _, by go_num, rfl, Lib.hid (by simp), HJ0, Lib.hid (KpC.refl _ _ _)⟩
  case round =>
    obtain ⟨i, pre, hi, hgk, rfl, HPR, HJ, HKP⟩ := hrel
    have HG := Lib.hid hgk
    clear hgk HJ0
    by_cases h0 : i = 0
    · subst h0
      gi_wp2
      go_end0
      exact ⟨⟨_, rfl⟩, .inl ⟨pre, by rw [HPR.out, List.take_of_length_le (by rw [List.length_reverse, HN.out]; omega)], HJ.out⟩⟩
    · obtain ⟨j, hj⟩ : ∃ j, i = j + 1 := ⟨i - 1, by omega⟩
      obtain ⟨x, hx⟩ : ∃ x, env[j]? = some x := ⟨_, List.getElem?_eq_getElem (by rw [HN.out]; omega)⟩
      obtain ⟨b, o, k, m, s, A', na, ca, B', nb, cb, rfl, hb, hFb, hvx, hz⟩ := kid_cellsB HE.out.1 HE.out.2 hx
      have hKF : KeepF AllT w0 wr := HKP.out.keepF HK.out HC0.out.1
      obtain ⟨z0, z1, z2, z3, z4, z5⟩ := hz wr ⟨hKF.1, fun b _ hb => hKF.2 b trivial hb⟩
      have hlb : b < wr.heap.size := Nat.lt_of_lt_of_le hb hKF.1
      obtain ⟨c0, f0, l0⟩ := (HKP.out.blk HVB.out HC0.out.2).rules
      obtain ⟨c1, f1, l1⟩ := Blk.rules (w := wr) (g := mb) (t := 88) (cs := #[p, .slice (some ⟨b, o, none⟩) n ec, mv]) ((hKF.2 mb trivial HMB.out.lt).trans HMB.out)
      have hpr : (pre ++ [((x, #[.string ⟨x.1.toArray⟩, .int .i64 k, .int .i64 m, .string s, .slice A' na ca, .slice B' nb cb]) : BnV)]).map Prod.fst = env.reverse.take (n - j) := by
        rw [List.map_append, HPR.out]
        have := rev_snoc hx
        rw [HN.out] at this
        rw [this, hj]; rfl
      have HPN := Lib.hid hpr
      obtain ⟨fn, tmps, assign, body, hy, hR⟩ := HY.out pre (x, #[.string ⟨x.1.toArray⟩, .int .i64 k, .int .i64 m, .string s, .slice A' na ca, .slice B' nb cb]) wr HJ.out ⟨⟨_, rfl, hvx⟩, by rw [hpr]; exact List.take_prefix _ _⟩
      unfold encB at hy
      simp only at hy
      have hw1 : IntKind.i64.wrap ((i : Int) - 1) = (j : Int) := by rw [IntWalk.i64_in _ (by omega)]; omega
      have hi0 : (0 : Int) < (i : Int) := by omega
      have hjn : j < n := by omega
      have hji : (j : Int) < (n : Int) := by omega
      have HJI := Lib.hid hj
      clear hz hx hb hFb hvx hpr h0 hj
      gi_wp2
      refine hR.mono ?_
      rintro e W3 (⟨rfl, hJ3, hk3⟩ | ⟨rfl, hJx3, hk3⟩)
      · have HJ3 := Lib.hid hJ3
        have HK3 := Lib.hid (HKP.out.trans hk3)
        clear hJ3 hk3 hR hy z0 z1 z2 z3 z4 z5 c0 f0 l0 c1 f1 l1
        gi_wp2
        gi_roundg j
        case measure => rw [HG.out, HJI.out]; omega
        case rel => exact ⟨j, _, by omega, rfl, by go_num, HPN, HJ3, HK3⟩
      · have HJX := Lib.hid hJx3
        clear hJx3 hk3 hR hy z0 z1 z2 z3 z4 z5 c0 f0 l0 c1 f1 l1
        gi_wp2
        refine bodyPost_ret (results_none rfl _ _ _) rfl ?_
        exact ⟨⟨_, rfl⟩, .inr ⟨_, trivial, HJX.out⟩⟩
end Go.Proofs.YtgolomgmnanbpaaGreatDoor
namespace Go.Proofs.YtgolomgmnanbpaaGreatDoor
set_option linter.unusedVariables false
set_option linter.unusedSimpArgs false
open Go.RowKit Go.Shelf
attribute [local go_sem] run_index_arr run_part_agg run_part_one run_field_agg Oper.semAt_some
theorem look_append (a : List (List UInt8 × JV)) (s : List UInt8) : ∀ b : List (List UInt8 × JV), lookJ (a ++ b) s = match lookJ b s with | some u => some u | none => lookJ a s := by
  induction a with
  | nil => intro b; show lookJ b s = _; cases lookJ b s <;> rfl
  | cons x r ih =>
    intro b
    obtain ⟨t, v⟩ := x
    show lookJ ((t, v) :: (r ++ b)) s = _
    rw [lookJ, ih b]
    cases lookJ b s with
    | some u => rfl
    | none => rw [lookJ]
theorem look_none {s : List UInt8} : ∀ {l : List (List UInt8 × JV)}, (∀ y ∈ l, y.1 ≠ s) → lookJ l s = none
  | [], _ => rfl
  | (t, v) :: r, h => by
    rw [lookJ, look_none (fun y hy => h y (List.mem_cons_of_mem _ hy))]
    show (if t = s then some v else none) = none
    rw [if_neg (h (t, v) List.mem_cons_self)]
theorem look_rev {env pre rest : List (List UInt8 × JV)} {s : List UInt8} {v : JV} (h : env.reverse = pre ++ (s, v) :: rest) (hp : ∀ y ∈ pre, y.1 ≠ s) : lookJ env s = some v := by
  have e : env = (rest.reverse ++ [(s, v)]) ++ pre.reverse := by
    have := congrArg List.reverse h
    rw [List.reverse_reverse] at this
    rw [this]; simp
  rw [e, look_append, look_none (fun y hy => hp y (by simpa using hy)), look_app, if_pos rfl]
def NmB (w : World) (g : Nat) (xc vc : Array Value) (t : Bool) (W : World) : Prop :=
  (Blk W w.heap.size 28 xc ∧ Blk W (w.heap.size + 1) 25 #[.int .i64 0, .int .i64 0, .string ⟨#[]⟩, .slice none 0 0, .slice none 0 0]) ∧ Blk W g 25 vc ∧ Blk W (g + 1) 4 #[.bool t] ∧ Below w.heap.size w W ∧ w.heap.size + 2 ≤ g
section
variable {w W W' : World} {g : Nat} {xc vc : Array Value} {t : Bool}
theorem NmB.keep (h : NmB w g xc vc t W) (hb : Below W.heap.size W W') : NmB w g xc vc t W' := ⟨⟨h.1.1.keep hb, h.1.2.keep hb⟩, h.2.1.keep hb, h.2.2.1.keep hb, h.2.2.2.1.trans (hb.mono h.2.2.2.1.size), h.2.2.2.2⟩
theorem NmB.drew (h : NmB w g xc vc t W) : NmB w g xc vc t W.drew := ⟨⟨h.1.1.drew, h.1.2.drew⟩, h.2.1.drew, h.2.2.1.drew, h.2.2.2.1.drew, h.2.2.2.2⟩
theorem NmB.putObj (h : NmB w g xc vc t W) {k : Nat} {o : Obj} (o' : Obj) (hk : g + 2 ≤ k) (ho : W.heap[k]? = some o) (hc : o.isCells = false) : NmB w g xc vc t (W.putObj k o') :=
  ⟨⟨h.1.1.putObj o' ho hc, h.1.2.putObj o' ho hc⟩, h.2.1.putObj o' ho hc, h.2.2.1.putObj o' ho hc, below_putObj h.2.2.2.1 k o' (by have := h.2.2.2.2; omega), h.2.2.2.2⟩
theorem NmB.found (h : NmB w g xc #[.int .i64 0, .int .i64 0, .string ⟨#[]⟩, .slice none 0 0, .slice none 0 0] t W) (a b c d e : Value) (t' : Bool) :
    NmB w g xc #[a, b, c, d, e] t' ((((((W.setCell ⟨g, 0, none⟩ a).setCell ⟨g, 1, none⟩ b).setCell ⟨g, 2, none⟩ c).setCell ⟨g, 3, none⟩ d).setCell ⟨g, 4, none⟩ e).setCell ⟨g + 1, 0, none⟩ (.bool t')) := by
  have h5 := h.2.2.2.2
  have n0 : w.heap.size ≠ g := by omega
  have n1 : w.heap.size + 1 ≠ g := by omega
  have n2 : g + 1 ≠ g := by omega
  have n3 : w.heap.size ≠ g + 1 := by omega
  have n4 : w.heap.size + 1 ≠ g + 1 := by omega
  have n5 : g ≠ g + 1 := by omega
  refine ⟨⟨?_, ?_⟩, ?_, ?_, ?_, h5⟩
  · exact (((((h.1.1.far n0 _).far n0 _).far n0 _).far n0 _).far n0 _).far n3 _
  · exact (((((h.1.2.far n1 _).far n1 _).far n1 _).far n1 _).far n1 _).far n4 _
  · exact (((((h.2.1.set_ 0 a).set_ 1 b).set_ 2 c).set_ 3 d).set_ 4 e).far n5 _
  · exact ((((((h.2.2.1.far n2 _).far n2 _).far n2 _).far n2 _).far n2 _)).set_ 0 _
  · exact (five_bel h.2.2.2.1 (by omega) a b c d e).setCell (p := ⟨g + 1, 0, none⟩) (by show w.heap.size ≤ g + 1; omega) _
end
theorem back_seq (w0 : World) (C : Nat → Prop) (F : Nat → Prop) (env : List (List UInt8 × JV)) (ecs : List (List Value)) (mb vb n ec : Nat) (EA : Option Addr) (p mv : Value) (W : World) (hC0 : ∀ k, C k → w0.heap.size ≤ k) (hvC : ¬ C vb)
    (hMB : Blk w0 mb 88 #[p, .slice EA n ec, mv]) (hE : BnRs w0 F ecs env) (hn : env.length = n) (hnc : n ≤ ec) (hr : RdF w0 F EA ecs.flatten) (hlen : n ≤ 4194304)
    (hK : KeepF AllT w0 W) (hvb : Blk W vb 84 #[.pointer (some ⟨mb, 0, none⟩)]) :
    SeqSt Fence.wide 2 Tryz.prog 164 #[.pointer (some ⟨vb, 0, none⟩)] encB (fun A B => Below A.heap.size A B) (KpC C w0.heap.size) (AdmB w0 F env) (fun xs _ => xs.map Prod.fst = env.reverse) (fun _ _ => True) W := by
  intro l J Jx W2 hW2 hJ _ hY h0
  exact back1_any l w0 C F env ecs mb vb n ec EA p mv J Jx W2 hC0 hvC hMB hE hn hnc hr hlen hY (hK.bel hW2) (hvb.keep hW2) h0
def NmC (g : Nat) (k : Nat) : Prop := k = g ∨ k = g + 1
def NmI (w : World) (g : Nat) (xc : Array Value) (s : List UInt8) (pre : List BnV) (W : World) : Prop := (∀ y ∈ pre, y.1.1 ≠ s) ∧ NmB w g xc #[.int .i64 0, .int .i64 0, .string ⟨#[]⟩, .slice none 0 0, .slice none 0 0] false W
def NmX (w : World) (g : Nat) (xc : Array Value) (F : Nat → Prop) (env : List (List UInt8 × JV)) (s : List UInt8) (c : Code) (pre : List BnV) (W : World) : Prop :=
  c = .exit 0 ∧ ∃ (u : JV) (k n : Int) (t : ByteArray) (A : Option Addr) (na ca : Nat) (B : Option Addr) (nb cb : Nat), lookJ env s = some u ∧ VR w F [.int .i64 k, .int .i64 n, .string t, .slice A na ca, .slice B nb cb] u ∧ NmB w g xc #[.int .i64 k, .int .i64 n, .string t, .slice A na ca, .slice B nb cb] true W
set_option maxRecDepth 100000 in
set_option maxHeartbeats 8000000 in
theorem mName {F : Nat → Prop} {env : List (List UInt8 × JV)} {w : World} {k : Int} {v : JV} {s : List UInt8} {kids : List EJ} {cs : List Value} (mb : Nat) (ecs : List (List Value)) (n ec : Nat) (EA : Option Addr) (p mv : Value) (hF : ∀ b, F b → b < w.heap.size)
    (hMB : Blk w mb 88 #[p, .slice EA n ec, mv]) (hE : BnRs w F ecs env) (hn : env.length = n) (hnc : n ≤ ec) (hr : RdF w F EA ecs.flatten) (hlen : n ≤ 4194304) (hgd : ∀ b ∈ env, good b.2 = true ∧ Came b.2) (hx : ER w F cs (.mk k v s kids)) :
    Calls Tryz.prog 72 #[.pointer (some ⟨mb, 0, none⟩), .agg cs.toArray] w (ExP (lookJ env s) F w) := by
  obtain ⟨k1, n1, s1, A1, na1, ca1, B1, nb1, cb1, A, ca, css, rfl, _⟩ := hx.out
  obtain ⟨nr, hnr⟩ : ∃ q, kids.length = q := ⟨_, rfl⟩
  rw [hnr]
  have HM := Lib.hid (And.intro hMB (And.intro hE (And.intro hn (And.intro hnc (And.intro hr hlen)))))
  have HGD := Lib.hid hgd
  have HFF := Lib.hid hF
  have HH0 := Lib.hid (((Held.nil w).push 28 #[.int .i64 k, .int .i64 k1, .int .i64 n1, .string s1, .slice A1 na1 ca1, .slice B1 nb1 cb1, .string ⟨s.toArray⟩, .slice A nr ca] (g := w.heap.size) rfl).push 25 #[.int .i64 0, .int .i64 0, .string ⟨#[]⟩, .slice none 0 0, .slice none 0 0] (g := w.heap.size + 1) (by simp))
  clear hMB hE hn hnc hr hlen hgd hF hx hnr
  refine (callsIn_wide (n := 3)).1 ?_
  refine callsIn_of_wp_marks Tryz.func72 rfl trivial ?_ rfl
  simp only [Tryz.ntmps72, List.size_toArray, List.length_cons, List.length_nil, Nat.reduceAdd, Nat.reduceSub, Array.replicate_succ, Array.replicate_zero, List.push_toArray, List.append_toArray, List.nil_append, List.cons_append]
  refine wpIn_wide.2 ?_
  go_wp2_with fail
  go_step3
  go_wp2_with fail
  refine (mNone _).mono ?_
  rintro e w1 ⟨rfl, hb1⟩
  have HH1 := Lib.hid (((HH0.out.keep hb1).push 25 #[.int .i64 0, .int .i64 0, .string ⟨#[]⟩, .slice none 0 0, .slice none 0 0] (g := w1.heap.size) rfl).push 4 #[.bool false] (g := w1.heap.size + 1) (by simp))
  have hg2 : w.heap.size + 2 ≤ w1.heap.size := by have := hb1.size; simpa using this
  clear hb1 HH0
  go_wp2_with fail
  go_step3
  go_wp2_with fail
  refine (mBackward mb _).mono ?_
  rintro e w2 ⟨rfl, rfl⟩
  go_wp2_with fail
  obtain ⟨Wr, hWr⟩ : ∃ Wr, ((w1.alloc (.cells #[.int .i64 0, .int .i64 0, .string ⟨#[]⟩, .slice none 0 0, .slice none 0 0] 25)).alloc (.cells #[.bool false] 4)).alloc (.cells #[.pointer (some ⟨mb, 0, none⟩)] 84) = Wr := ⟨_, rfl⟩
  have hnb : NmB w w1.heap.size #[.int .i64 k, .int .i64 k1, .int .i64 n1, .string s1, .slice A1 na1 ca1, .slice B1 nb1 cb1, .string ⟨s.toArray⟩, .slice A nr ca] #[.int .i64 0, .int .i64 0, .string ⟨#[]⟩, .slice none 0 0, .slice none 0 0] false Wr := by
    rw [← hWr]
    have h := HH1.out.alloc (.cells #[.pointer (some ⟨mb, 0, none⟩)] 84)
    exact ⟨⟨h.b3, h.b2⟩, h.b1, h.b0, h.1, hg2⟩
  have hvb : Blk Wr (w1.heap.size + 1 + 1) 84 #[.pointer (some ⟨mb, 0, none⟩)] := by
    rw [← hWr]
    have := Blk.new ((w1.alloc (.cells #[.int .i64 0, .int .i64 0, .string ⟨#[]⟩, .slice none 0 0, .slice none 0 0] 25)).alloc (.cells #[.bool false] 4)) 84 #[.pointer (some ⟨mb, 0, none⟩)]
    rw [World.size_alloc, World.size_alloc] at this; exact this
  have hszr : w1.heap.size + 3 ≤ Wr.heap.size := by rw [← hWr]; simp
  rw [hWr]
  clear hWr HH1
  refine (wpIn_wide (n := 3)).1 ?_
  refine wpIn_rf2 rfl (by omega) (gf := 164) (lb := #[.pointer (some ⟨w1.heap.size + 1 + 1, 0, none⟩)]) rfl trivial (enters_of Tryz.func164 (by kernel_rfl) rfl)
    (back_seq w (NmC w1.heap.size) F env ecs mb (w1.heap.size + 1 + 1) n ec EA p mv Wr (fun k h => by unfold NmC at h; omega) (fun h => by unfold NmC at h; omega) HM.out.1 HM.out.2.1 HM.out.2.2.1 HM.out.2.2.2.1 HM.out.2.2.2.2.1 HM.out.2.2.2.2.2 (KeepF.of_below hnb.2.2.2.1) hvb) (Below.refl _ _) (fun _ => rfl)
    (fun A B k o hs hk ho _ => (hs.block k (Array.getElem?_eq_some_iff.1 ho).1).trans ho)
    (fun h k => h.trans k) (fun W k o o' hk ho hc => KpC.putObj (by omega) ho hc)
    (fun _ _ _ _ _ _ _ _ h => h) (fun _ _ _ _ _ _ _ _ h => h)
    (NmI w w1.heap.size #[.int .i64 k, .int .i64 k1, .int .i64 n1, .string s1, .slice A1 na1 ca1, .slice B1 nb1 cb1, .string ⟨s.toArray⟩, .slice A nr ca] s) (NmX w w1.heap.size #[.int .i64 k, .int .i64 k1, .int .i64 n1, .string s1, .slice A1 na1 ca1, .slice B1 nb1 cb1, .string ⟨s.toArray⟩, .slice A nr ca] F env s) (fun s A B hs h => ⟨h.1, h.2.keep hs⟩) (fun _ _ _ _ hs ⟨h1, u, a1, a2, a3, a4, a5, a6, a7, a8, a9, h2, h3, h4⟩ => ⟨h1, u, a1, a2, a3, a4, a5, a6, a7, a8, a9, h2, h3, h4.keep hs⟩) (fun s W k o o' hk ho hc h => ⟨h.1, h.2.putObj o' (by omega) ho hc⟩) (fun _ _ _ _ _ o' hk ho hc ⟨h1, u, a1, a2, a3, a4, a5, a6, a7, a8, a9, h2, h3, h4⟩ => ⟨h1, u, a1, a2, a3, a4, a5, a6, a7, a8, a9, h2, h3, h4.putObj o' (by omega) ho hc⟩)
    (fun o o' => ⟨(fun y hy => by cases hy), (hnb.keep ((Below.refl _ Wr).alloc (Nat.le_refl _) o)).keep ((Below.refl _ _).alloc (Nat.le_refl _) o')⟩)
    (fun pre x a1 W => ∃ tb, a1 = { tmps := #[.pointer (some ⟨mb, 0, none⟩), .agg #[.int .i64 k, .int .i64 k1, .int .i64 n1, .string s1, .slice A1 na1 ca1, .slice B1 nb1 cb1, .string ⟨s.toArray⟩, .slice A nr ca], undef, .pointer (some ⟨w.heap.size, 0, none⟩), .pointer (some ⟨w.heap.size + 1, 0, none⟩), .bool false, .pointer (some ⟨w1.heap.size, 0, none⟩), .pointer (some ⟨w1.heap.size + 1, 0, none⟩), .pointer (some ⟨tb, 0, none⟩), .tuple #[.agg #[.int .i64 0, .int .i64 0, .string ⟨#[]⟩, .slice none 0 0, .slice none 0 0], .bool false], .tuple #[.agg #[.int .i64 0, .int .i64 0, .string ⟨#[]⟩, .slice none 0 0, .slice none 0 0], .bool false], .agg #[.int .i64 0, .int .i64 0, .string ⟨#[]⟩, .slice none 0 0, .slice none 0 0], .bool false, .pointer (some ⟨mb, 0, none⟩), .func (.func 164) #[] #[.pointer (some ⟨w1.heap.size + 1 + 1, 0, none⟩)], .agg x.2, undef, undef, undef, undef, undef, undef, undef, undef, undef], defers := [] } ∧ Blk W tb 37 x.2 ∧ w1.heap.size + 2 ≤ tb ∧ NmI w w1.heap.size #[.int .i64 k, .int .i64 k1, .int .i64 n1, .string s1, .slice A1 na1 ca1, .slice B1 nb1 cb1, .string ⟨s.toArray⟩, .slice A nr ca] s pre W)
    ?hI1p ?assign ?body ?done ?stop
  case hI1p =>
    rintro pre x a1 W k o o' hk ho hc ⟨tb, e, h1, h2, h3⟩
    exact ⟨tb, e, h1.putObj o' ho hc, h2, h3.1, h3.2.putObj o' (by omega) ho hc⟩
  case assign =>
    rintro r pre ⟨⟨nm, jx⟩, ax⟩ W hI hadm
    have hIA := hI.2.keep ((Below.refl _ W).alloc (Nat.le_refl _) (.cells ax 37))
    obtain ⟨⟨vcs, hf, hvx⟩, _⟩ := hadm
    obtain ⟨kf, nf, tf, Af, naf, caf, Bf, nbf, cbf, rfl⟩ := hvx.form
    obtain rfl : ax = #[.string ⟨nm.toArray⟩, .int .i64 kf, .int .i64 nf, .string tf, .slice Af naf caf, .slice Bf nbf cbf] := by rw [← Array.toArray_toList (xs := ax)]; exact congrArg List.toArray hf
    have HIA := Lib.hid hIA
    have hd := hI.1
    have hsz : w1.heap.size + 2 ≤ W.heap.size := hI.2.2.2.1.lt
    clear hIA hf hvx hI
    simp only [encB]
    gi_wp2
    have hba : Below W.heap.size W (W.alloc (.cells #[.string ⟨nm.toArray⟩, .int .i64 kf, .int .i64 nf, .string tf, .slice Af naf caf, .slice Bf nbf cbf] 37)) := (Below.refl _ W).alloc (Nat.le_refl _) _
    exact ⟨⟨W.heap.size, rfl, Blk.new _ _ _, hsz, hd, HIA.out⟩, KeepsFrom.below_ hba, KpC.of_below hba⟩
  case body =>
    rintro r pre ⟨⟨nm, jx⟩, ax⟩ a1 W ⟨tb, rfl, htb, htb4, hd, hmb⟩ hadm
    obtain ⟨⟨vcs, hf, hvx⟩, hpx⟩ := hadm
    obtain ⟨kf, nf, tf, Af, naf, caf, Bf, nbf, cbf, rfl⟩ := hvx.form
    obtain rfl : ax = #[.string ⟨nm.toArray⟩, .int .i64 kf, .int .i64 nf, .string tf, .slice Af naf caf, .slice Bf nbf cbf] := by rw [← Array.toArray_toList (xs := ax)]; exact congrArg List.toArray hf
    obtain ⟨t1, t2, t3⟩ := htb.rules
    obtain ⟨x1, x2, x3⟩ := hmb.1.1.rules
    obtain ⟨v1, v2, v3⟩ := hmb.2.1.rules
    obtain ⟨b1, b2, b3⟩ := hmb.2.2.1.rules
    have hne1 : tb ≠ w1.heap.size := by omega
    have hne2 : w1.heap.size ≠ tb := by omega
    have hne3 : tb ≠ w1.heap.size + 1 := by omega
    have hne4 : w1.heap.size + 1 ≠ w1.heap.size := by omega
    have hne5 : w1.heap.size ≠ w1.heap.size + 1 := by omega
    by_cases hs : nm = s
    · subst hs
      have hlk : lookJ env nm = some jx := by
        obtain ⟨rest, hrest⟩ := hpx
        rw [List.map_append, List.append_assoc] at hrest
        refine look_rev (pre := pre.map Prod.fst) (rest := rest) hrest.symm (fun y hy => ?_)
        obtain ⟨z, hz, rfl⟩ := List.mem_map.1 hy
        exact hd z hz
      have hfo := hmb.found (.int .i64 kf) (.int .i64 nf) (.string tf) (.slice Af naf caf) (.slice Bf nbf cbf) true
      have hkf : KeepsFrom Wr.heap.size W ((((((W.setCell ⟨w1.heap.size, 0, none⟩ (.int .i64 kf)).setCell ⟨w1.heap.size, 1, none⟩ (.int .i64 nf)).setCell ⟨w1.heap.size, 2, none⟩ (.string tf)).setCell ⟨w1.heap.size, 3, none⟩ (.slice Af naf caf)).setCell ⟨w1.heap.size, 4, none⟩ (.slice Bf nbf cbf)).setCell ⟨w1.heap.size + 1, 0, none⟩ (.bool true)) := by
        have k0 := kf_setBlk (KeepsFrom.below_ (B := Wr.heap.size) (Below.refl _ W)) hmb.2.1 0 (.int .i64 kf)
        have k1 := kf_setBlk k0 (hmb.2.1.set_ 0 _) 1 (.int .i64 nf)
        have k2 := kf_setBlk k1 ((hmb.2.1.set_ 0 _).set_ 1 _) 2 (.string tf)
        have k3 := kf_setBlk k2 (((hmb.2.1.set_ 0 _).set_ 1 _).set_ 2 _) 3 (.slice Af naf caf)
        have k4 := kf_setBlk k3 ((((hmb.2.1.set_ 0 _).set_ 1 _).set_ 2 _).set_ 3 _) 4 (.slice Bf nbf cbf)
        exact kf_setBlk k4 (((((hmb.2.2.1.far hne4 _).far hne4 _).far hne4 _).far hne4 _).far hne4 _) 0 (.bool true)
      have hkp := ((((((KpC.refl (NmC w1.heap.size) w.heap.size W).set (k := w1.heap.size) (.inl rfl) 0 (.int .i64 kf)).set (k := w1.heap.size) (.inl rfl) 1 (.int .i64 nf)).set (k := w1.heap.size) (.inl rfl) 2 (.string tf)).set (k := w1.heap.size) (.inl rfl) 3 (.slice Af naf caf)).set (k := w1.heap.size) (.inl rfl) 4 (.slice Bf nbf cbf)).set (k := w1.heap.size + 1) (.inr rfl) 0 (.bool true)
      have HF := Lib.hid (And.intro hkf (And.intro hkp (And.intro hlk (And.intro hvx hfo))))
      clear hkf hkp hlk hfo hvx hpx hd hmb htb hf
      gi_wp2
      exact ⟨HF.out.1, HF.out.2.1, rfl, jx, _, _, _, _, _, _, _, _, _, HF.out.2.2.1, HF.out.2.2.2.1, HF.out.2.2.2.2⟩
    · have hbe : (nm == s) = false := by simpa using hs
      have HF := Lib.hid (And.intro (show ∀ y ∈ pre ++ [(((nm, jx), #[.string ⟨nm.toArray⟩, .int .i64 kf, .int .i64 nf, .string tf, .slice Af naf caf, .slice Bf nbf cbf]) : BnV)], y.1.1 ≠ s from fun y hy => by
        rcases List.mem_append.1 hy with hy | hy
        · exact hd y hy
        · obtain rfl := List.mem_singleton.1 hy; exact hs) hmb)
      clear hvx hpx hd hmb htb hf hs
      gi_wp2
      exact ⟨KeepsFrom.below_ (Below.refl _ _), KpC.refl _ _ _, HF.out.1, HF.out.2⟩
  case done =>
    rintro D xs W hD hxs ⟨hd, hmb⟩ hK
    have HNO := Lib.hid (show lookJ env s = none from look_none fun y hy => by
      have hy' : y ∈ xs.map Prod.fst := by rw [hxs]; exact List.mem_reverse.2 hy
      obtain ⟨z, hz, rfl⟩ := List.mem_map.1 hy'
      exact hd z hz)
    have HM2 := Lib.hid hmb
    clear hd hmb hxs
    go_wp2
    refine wp_region_noPanic ?_
    refine wp_region_held_drew (S := fun W' => Blk W' w1.heap.size 25 #[.int .i64 0, .int .i64 0, .string ⟨#[]⟩, .slice none 0 0, .slice none 0 0] ∧ Blk W' (w1.heap.size + 1) 4 #[.bool false]) (by kernel_rfl) (by exact ⟨HM2.out.2.1.drew, HM2.out.2.2.1.drew⟩) (fun hHeld => ?_)
    refine wpAnyH_take (i := 0) (oi := ⟨some 23, _, _, _, _, _⟩) (v := .agg #[.int .i64 0, .int .i64 0, .string ⟨#[]⟩, .slice none 0 0, .slice none 0 0]) rfl (by kernel_rfl) (by kernel_rfl) (by kernel_rfl) (fun _ _ _ h => h) (Or.inl ⟨by kernel_rfl, ?_⟩) (by assumption) ?_
    · intro W' hSw; obtain ⟨hc, hf, hl⟩ := hSw.1.rules; go_simp
    try simp only [Act.put, List.setIfInBounds_toArray, List.set_cons_zero, List.set_cons_succ]
    refine wpAnyH_take (i := 1) (oi := ⟨some 24, _, _, _, _, _⟩) (v := .bool false) rfl (by kernel_rfl) (by kernel_rfl) (by kernel_rfl) (fun _ _ _ h => h) (Or.inl ⟨by kernel_rfl, ?_⟩) (by assumption) ?_
    · intro W' hSw; obtain ⟨hc, hf, hl⟩ := hSw.2.rules; go_simp
    try simp only [Act.put, List.setIfInBounds_toArray, List.set_cons_zero, List.set_cons_succ]
    refine wpAnyH_ready (rs := [2]) (by kernel_rfl) (by simp) ?_
    refine AllReadyH.cons (o := ⟨none, _, _, _, _, _⟩) rfl (fun K hK => ?_) AllReadyH.nil
    rw [if_pos (by kernel_rfl)]
    refine wp_store_mid 25 (.tmp 4) (.tmp 23) rfl (w.heap.size + 1) 0 #[.int .i64 0, .int .i64 0, .string ⟨#[]⟩, .slice none 0 0, .slice none 0 0] rfl rfl HM2.out.1.2.drew.there (by kernel_rfl) (by kernel_rfl) ?_
    have hgne : w1.heap.size ≠ w.heap.size + 1 := by omega
    have hgne2 : w1.heap.size + 1 ≠ w.heap.size + 1 := by omega
    refine hK.out _ _ (by exact ⟨Blk.farC hgne _ _ HM2.out.2.1.drew, Blk.farC hgne2 _ _ HM2.out.2.2.1.drew⟩) (fun hHeld2 => ?_)
    clear hK K hHeld
    try simp only [Act.put, List.setIfInBounds_toArray, List.set_cons_zero, List.set_cons_succ]
    refine wpAnyH_take (i := 3) (oi := ⟨some 5, _, _, _, _, _⟩) (v := .bool false) rfl (by kernel_rfl) (by kernel_rfl) (by kernel_rfl) (fun _ _ _ h => h) (Or.inl ⟨by kernel_rfl, ?_⟩) (by assumption) ?_
    · intro W' hSw; go_simp
    try simp only [Act.put, List.setIfInBounds_toArray, List.set_cons_zero, List.set_cons_succ]
    refine wpAnyH_done (by kernel_rfl) ?_ _
    refine NoPanic.normal ?_
    have hK1 : (W.drew.setCells (w.heap.size + 1) 0 [.int .i64 0, .int .i64 0, .string ⟨#[]⟩, .slice none 0 0, .slice none 0 0]).heap[D]? = some (.deferred (some [])) := by
      refine Eq.trans ?_ hK
      exact ((((Below.heap_setCell _ ⟨w.heap.size + 1, 4, none⟩ _ D (by show D ≠ w.heap.size + 1; omega)).trans (Below.heap_setCell _ ⟨w.heap.size + 1, 3, none⟩ _ D (by show D ≠ w.heap.size + 1; omega))).trans (Below.heap_setCell _ ⟨w.heap.size + 1, 2, none⟩ _ D (by show D ≠ w.heap.size + 1; omega))).trans (Below.heap_setCell _ ⟨w.heap.size + 1, 1, none⟩ _ D (by show D ≠ w.heap.size + 1; omega))).trans (Below.heap_setCell _ ⟨w.heap.size + 1, 0, none⟩ _ D (by show D ≠ w.heap.size + 1; omega))
    have HB4 := Lib.hid (HM2.out.1.2.drew.set5C (.int .i64 0) (.int .i64 0) (.string ⟨#[]⟩) (.slice none 0 0) (.slice none 0 0))
    have HBF := Lib.hid (bel_setC (B := w.heap.size) (b := w.heap.size + 1) (by omega) [.int .i64 0, .int .i64 0, .string ⟨#[]⟩, .slice none 0 0, .slice none 0 0] 0 HM2.out.2.2.2.1.drew)
    have HKF := Lib.hid (fun (G : Nat → Prop) (g1 : ∀ k, G k → k ≠ w.heap.size + 1) => KeepF.setC (F := G) g1 [.int .i64 0, .int .i64 0, .string ⟨#[]⟩, .slice none 0 0, .slice none 0 0] 0 ((KeepF.of_below HM2.out.2.2.2.1.drew : KeepF G w W.drew)))
    obtain ⟨Wf, hWf⟩ : ∃ Wf, Wf = W.drew.setCells (w.heap.size + 1) 0 [.int .i64 0, .int .i64 0, .string ⟨#[]⟩, .slice none 0 0, .slice none 0 0] := ⟨_, rfl⟩
    rw [← hWf] at hK1 HB4 HBF HKF ⊢
    clear hWf hHeld2
    go_wp2
    have hB5 := HB4.out.putObj (.deferred none) hK1 rfl
    obtain ⟨c4, f4, l4⟩ := hB5.rules
    rw [Exit.noGoto_ret]
    refine ⟨by simp, .inl ⟨_, _, rfl, run_takeDeferred hK1, ?_⟩⟩
    refine ⟨.tuple #[.agg #[.int .i64 0, .int .i64 0, .string ⟨#[]⟩, .slice none 0 0, .slice none 0 0], .bool false], by simp only [results, Tryz.results72]; go_simp, ?_⟩
    exact ExP.none_ (w1 := w) HNO.out (below_putObj HBF.out D _ (by omega))
  case stop =>
    rintro D c pre W hD _ ⟨rfl, u, kf, nf, tf, Af, naf, caf, Bf, nbf, cbf, hlk, hvx, hmb⟩ hK
    obtain ⟨y, hy, rfl⟩ := look_mem hlk
    have HLK := Lib.hid (And.intro hlk (And.intro hvx (HGD.out y hy)))
    have HM2 := Lib.hid hmb
    clear hlk hvx hmb hy
    refine wpIn_wide.2 ?_
    go_wp2
    refine wp_region_noPanic ?_
    refine wp_region_held_drew (S := fun W' => Blk W' w1.heap.size 25 #[.int .i64 kf, .int .i64 nf, .string tf, .slice Af naf caf, .slice Bf nbf cbf] ∧ Blk W' (w1.heap.size + 1) 4 #[.bool true]) (by kernel_rfl) (by exact ⟨HM2.out.2.1.drew, HM2.out.2.2.1.drew⟩) (fun hHeld => ?_)
    refine wpAnyH_take (i := 0) (oi := ⟨some 23, _, _, _, _, _⟩) (v := .agg #[.int .i64 kf, .int .i64 nf, .string tf, .slice Af naf caf, .slice Bf nbf cbf]) rfl (by kernel_rfl) (by kernel_rfl) (by kernel_rfl) (fun _ _ _ h => h) (Or.inl ⟨by kernel_rfl, ?_⟩) (by assumption) ?_
    · intro W' hSw; obtain ⟨hc, hf, hl⟩ := hSw.1.rules; go_simp
    try simp only [Act.put, List.setIfInBounds_toArray, List.set_cons_zero, List.set_cons_succ]
    refine wpAnyH_take (i := 1) (oi := ⟨some 24, _, _, _, _, _⟩) (v := .bool true) rfl (by kernel_rfl) (by kernel_rfl) (by kernel_rfl) (fun _ _ _ h => h) (Or.inl ⟨by kernel_rfl, ?_⟩) (by assumption) ?_
    · intro W' hSw; obtain ⟨hc, hf, hl⟩ := hSw.2.rules; go_simp
    try simp only [Act.put, List.setIfInBounds_toArray, List.set_cons_zero, List.set_cons_succ]
    refine wpAnyH_ready (rs := [2]) (by kernel_rfl) (by simp) ?_
    refine AllReadyH.cons (o := ⟨none, _, _, _, _, _⟩) rfl (fun K hK => ?_) AllReadyH.nil
    rw [if_pos (by kernel_rfl)]
    refine wp_store_mid 25 (.tmp 4) (.tmp 23) rfl (w.heap.size + 1) 0 #[.int .i64 kf, .int .i64 nf, .string tf, .slice Af naf caf, .slice Bf nbf cbf] rfl rfl HM2.out.1.2.drew.there (by kernel_rfl) (by kernel_rfl) ?_
    have hgne : w1.heap.size ≠ w.heap.size + 1 := by omega
    have hgne2 : w1.heap.size + 1 ≠ w.heap.size + 1 := by omega
    refine hK.out _ _ (by exact ⟨Blk.farC hgne _ _ HM2.out.2.1.drew, Blk.farC hgne2 _ _ HM2.out.2.2.1.drew⟩) (fun hHeld2 => ?_)
    clear hK K hHeld
    try simp only [Act.put, List.setIfInBounds_toArray, List.set_cons_zero, List.set_cons_succ]
    refine wpAnyH_take (i := 3) (oi := ⟨some 5, _, _, _, _, _⟩) (v := .bool true) rfl (by kernel_rfl) (by kernel_rfl) (by kernel_rfl) (fun _ _ _ h => h) (Or.inl ⟨by kernel_rfl, ?_⟩) (by assumption) ?_
    · intro W' hSw; go_simp
    try simp only [Act.put, List.setIfInBounds_toArray, List.set_cons_zero, List.set_cons_succ]
    refine wpAnyH_done (by kernel_rfl) ?_ _
    refine NoPanic.normal ?_
    have hK1 : (W.drew.setCells (w.heap.size + 1) 0 [.int .i64 kf, .int .i64 nf, .string tf, .slice Af naf caf, .slice Bf nbf cbf]).heap[D]? = some (.deferred (some [])) := by
      refine Eq.trans ?_ hK
      exact ((((Below.heap_setCell _ ⟨w.heap.size + 1, 4, none⟩ _ D (by show D ≠ w.heap.size + 1; omega)).trans (Below.heap_setCell _ ⟨w.heap.size + 1, 3, none⟩ _ D (by show D ≠ w.heap.size + 1; omega))).trans (Below.heap_setCell _ ⟨w.heap.size + 1, 2, none⟩ _ D (by show D ≠ w.heap.size + 1; omega))).trans (Below.heap_setCell _ ⟨w.heap.size + 1, 1, none⟩ _ D (by show D ≠ w.heap.size + 1; omega))).trans (Below.heap_setCell _ ⟨w.heap.size + 1, 0, none⟩ _ D (by show D ≠ w.heap.size + 1; omega))
    have HB4 := Lib.hid (HM2.out.1.2.drew.set5C (.int .i64 kf) (.int .i64 nf) (.string tf) (.slice Af naf caf) (.slice Bf nbf cbf))
    have HBF := Lib.hid (bel_setC (B := w.heap.size) (b := w.heap.size + 1) (by omega) [.int .i64 kf, .int .i64 nf, .string tf, .slice Af naf caf, .slice Bf nbf cbf] 0 HM2.out.2.2.2.1.drew)
    have HKF := Lib.hid (fun (G : Nat → Prop) (g1 : ∀ k, G k → k ≠ w.heap.size + 1) => KeepF.setC (F := G) g1 [.int .i64 kf, .int .i64 nf, .string tf, .slice Af naf caf, .slice Bf nbf cbf] 0 ((KeepF.of_below HM2.out.2.2.2.1.drew : KeepF G w W.drew)))
    obtain ⟨Wf, hWf⟩ : ∃ Wf, Wf = W.drew.setCells (w.heap.size + 1) 0 [.int .i64 kf, .int .i64 nf, .string tf, .slice Af naf caf, .slice Bf nbf cbf] := ⟨_, rfl⟩
    rw [← hWf] at hK1 HB4 HBF HKF ⊢
    clear hWf hHeld2
    go_wp2
    have hB5 := HB4.out.putObj (.deferred none) hK1 rfl
    obtain ⟨c4, f4, l4⟩ := hB5.rules
    rw [Exit.noGoto_ret]
    refine ⟨by simp, .inl ⟨_, _, rfl, run_takeDeferred hK1, ?_⟩⟩
    refine ⟨.tuple #[.agg #[.int .i64 kf, .int .i64 nf, .string tf, .slice Af naf caf, .slice Bf nbf cbf], .bool true], by simp only [results, Tryz.results72]; go_simp, ?_⟩
    refine ⟨_, y.2, true, rfl, ?_, HLK.out.2.2.2, HLK.out.1, fun _ => HLK.out.2.2.1, below_putObj HBF.out D _ (by omega)⟩
    have hv1 := HLK.out.2.1.mono (F' := fun b => F b ∧ b < w.heap.size) fun b hb hF => ⟨hF, hb⟩
    have hv2 := hv1.keep (HKF.out _ (fun k hk => by have := hk.2; omega))
    refine VR.mono (F := fun b => F b ∧ b < w.heap.size) (hv2.keep ⟨by simp [World.putObj], fun b hb _ => World.putObj_heap_other (by have := hb.2; omega)⟩) (fun b _ hb => .inl hb.1)
end Go.Proofs.YtgolomgmnanbpaaGreatDoor
