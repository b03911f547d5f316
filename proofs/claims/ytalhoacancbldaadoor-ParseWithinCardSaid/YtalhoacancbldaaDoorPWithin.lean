/- The walk of ParseWithin. -/
import Derived.Test.YtalhoacancbldaaDoorWithinP
import Derived.Test.YtalhoacancbldaaDoorPBlanks
namespace Go.Proofs.YtalhoacancbldaaDoor
set_option linter.unusedVariables false
set_option linter.unusedSimpArgs false
open Go.RowKit
attribute [local go_sem] run_index_arr run_part_agg run_part_one run_field_agg

theorem dpt_fold (n : Nat) : ∀ (l : List (Nat × JV)) (d : Nat), l.foldl dptF d ≤ n ↔ d ≤ n ∧ ∀ x ∈ l, holdsK x.2.kind = true → x.1 + 1 ≤ n
  | [], d => by simp
  | x :: r, d => by
    rw [List.foldl_cons, dpt_fold n r]
    have e : dptF d x ≤ n ↔ d ≤ n ∧ (holdsK x.2.kind = true → x.1 + 1 ≤ n) := by
      unfold dptF
      split
      · rename_i h; simp [h]; omega
      · rename_i h; simp [h]
    rw [e]
    constructor
    · rintro ⟨⟨h1, h2⟩, h3⟩
      refine ⟨h1, fun y hy => ?_⟩
      rcases List.mem_cons.1 hy with rfl | hy
      · exact h2
      · exact h3 y hy
    · rintro ⟨h1, h2⟩
      exact ⟨⟨h1, h2 x List.mem_cons_self⟩, fun y hy => h2 y (List.mem_cons_of_mem _ hy)⟩
theorem dpt_le (n : Nat) (l : List (Nat × JV)) : dpt l ≤ n ↔ ∀ x ∈ l, holdsK x.2.kind = true → x.1 + 1 ≤ n := by
  unfold dpt
  rw [dpt_fold]
  simp
theorem right_dpt {d : Nat} {v : JV} (h : rightJ d v) : dpt (flatJ 0 v) ≤ d := by
  rw [dpt_le]
  intro x hx hk
  obtain ⟨d', h1, h2⟩ := node_right _ v (Nat.le_refl _) h x hx
  obtain ⟨lv, ⟨k, n, s, kids, keys⟩⟩ := x
  unfold holdsK at hk
  have hk := of_decide_eq_true hk
  unfold rightJ at h1
  have := h1.2.1 (by show 5 ≤ k; have hk : k = 5 ∨ k = 6 := hk; omega)
  simp only at h2 ⊢
  omega
theorem dpt_right : ∀ (M : Nat) (v : JV), nodesJ v ≤ M → ∀ (D d lv : Nat), rightJ D v → (∀ x ∈ flatJ lv v, holdsK x.2.kind = true → x.1 + 1 ≤ lv + d) → rightJ d v
  | 0, v, h, _, _, _, _, _ => by have := nodesJ_pos v; omega
  | M + 1, .mk k n s kids keys, hM, D, d, lv, hR, hx => by
    unfold rightJ at hR ⊢
    obtain ⟨ha, hD, hk⟩ := hR
    have hself : 5 ≤ k → d ≠ 0 := fun h5 => by
      have h6 := ha.kind
      have := hx (lv, .mk k n s kids keys) (by rw [flatJ]; exact List.mem_cons_self) (by show holdsK k = true; unfold holdsK; exact decide_eq_true (by omega))
      simp only at this
      omega
    refine ⟨ha, hself, rightL_iff.2 fun y hy => ?_⟩
    have h5 : 5 ≤ k := by
      by_cases h : k < 5
      · rw [ha.leaf h] at hy; cases hy
      · omega
    have hd := hself h5
    obtain ⟨i, hi⟩ := List.mem_iff_getElem?.1 hy
    obtain ⟨hn1, hn2⟩ := nodesL_at hi
    unfold nodesJ at hM
    refine dpt_right M y (by omega) (D - 1) (d - 1) (lv + 1) (rightL_iff.1 hk y hy) fun x hx' hh => ?_
    have := hx x (by rw [flatJ]; refine List.mem_cons_of_mem _ ?_; rw [(flatL_at (lv := lv + 1) hi).2]; simp [hx']) hh
    omega
/-- the limits of two texts beside each other -/
def Both (v w : JV) : Prop := rightJ 7 v ∧ rightJ 7 w ∧ 1 + nodesJ v + nodesJ w ≤ 256
theorem both_iff {v w : JV} (hv : rightJ 8 v) (hw : rightJ 8 w) : Both v w ↔ (dpt (flatJ 0 v) ≤ 7 ∧ dpt (flatJ 0 w) ≤ 7 ∧ nodesJ v + nodesJ w ≤ 255) := by
  have h := fun (u : JV) (hu : rightJ 8 u) (hd : dpt (flatJ 0 u) ≤ 7) => dpt_right _ u (Nat.le_refl _) 8 7 0 hu (fun x hx hh => by have := (dpt_le 7 _).1 hd x hx hh; omega)
  constructor
  · rintro ⟨h1, h2, h3⟩; exact ⟨right_dpt h1, right_dpt h2, by omega⟩
  · rintro ⟨h1, h2, h3⟩; exact ⟨h v hv h1, h w hw h2, by omega⟩
theorem within_out {L : List UInt8} {V v w : JV} (hL : L.length ≤ 2048) (h : Outc L V v w) (hn : nodesJ V = 1 + nodesJ v + nodesJ w) (hv : v ∈ V.kids) (hw : w ∈ V.kids) {o : JV × Int × Int} (ho : ParseR L o) :
    (Both v w ∧ o = (V, 0, 0) ∧ rightJ 8 V ∧ nodesJ V ≤ 256) ∨ (¬ Both v w ∧ ∃ p e, o = (jZero, p, e) ∧ (e = 150 ∨ e = 151)) := by
  rcases h with ⟨k, h⟩ | ⟨p, e, h, he, hC⟩
  · obtain ⟨i1, i2, i3⟩ := rd_right (by omega) h (Nat.zero_le _) (Nat.zero_le _)
    refine .inl ⟨⟨right_kid i1 hv, right_kid i1 hw, by omega⟩, ?_, i1, by omega⟩
    rw [ParseR_det hL (start_reach h) (outR_end _) ho, refOut_is]
    show (if skipB L L.length < L.length then (jZero, ((skipB L L.length : Nat) : Int), (7 : Int)) else (V, 0, 0)) = _
    rw [skipB_end (Nat.le_refl _), if_neg (by omega)]
  · refine .inr ⟨hC, p, e, ?_, he⟩
    rw [ParseR_det hL (start_reach h) (outR_end _) ho, refOut_is]
    rfl
theorem good_of {l : List UInt8} {v : JV} {a : Int} (h : ParseR l (v, a, 0)) : l.length ≤ 2048 ∧ rightJ 8 v ∧ nodesJ v ≤ 256 ∧ ∃ q, Good l v q := by
  rcases may_parse h with ⟨h1, _⟩ | ⟨_, _, h1, h2, h3, q, k, h4, h5, h6, h7⟩
  · exact absurd rfl h1
  · exact ⟨h1, h2, h3, q, ⟨k, h4⟩, h6, h7⟩
theorem concat5_any {W : World} {va vb : Value} {a b l1 l2 l3 : List UInt8} (c1 c2 c3 : Array Value) (f1 f2 f3 : Nat × Nat) (n1 n2 n3 : Nat) (t : TypeId) (h1 : c1 = (byteV l1).toArray) (h2 : c2 = (byteV l2).toArray) (h3 : c3 = (byteV l3).toArray)
    (e1 : n1 = l1.length) (e2 : n2 = l2.length) (e3 : n3 = l3.length) (ha : BS W va a) (hb : BS W vb b) (hl : (l1 ++ (a ++ (l2 ++ (b ++ l3)))).length ≤ 1048576) (Wf : World)
    (hWf : ((((W.alloc (.cells c1 5 f1)).alloc (.cells c2 5 f2)).alloc (.cells c3 5 f3)).alloc (.cells #[.slice (some ⟨W.heap.size, 0, none⟩) n1 n1, va, .slice (some ⟨W.heap.size + 1, 0, none⟩) n2 n2, vb, .slice (some ⟨W.heap.size + 1 + 1, 0, none⟩) n3 n3] t)) = Wf) :
    Calls Tryd.prog 34 #[.slice (some ⟨W.heap.size + 1 + 1 + 1, 0, none⟩) 5 5] Wf (RetB5 (l1 ++ (a ++ (l2 ++ (b ++ l3)))) Wf) ∧ Below W.heap.size W Wf := by
  have s1 : (W.alloc (.cells c1 5 f1)).heap.size = W.heap.size + 1 := by simp
  have s2 : ((W.alloc (.cells c1 5 f1)).alloc (.cells c2 5 f2)).heap.size = W.heap.size + 1 + 1 := by simp
  have s3 : (((W.alloc (.cells c1 5 f1)).alloc (.cells c2 5 f2)).alloc (.cells c3 5 f3)).heap.size = W.heap.size + 1 + 1 + 1 := by simp
  have b1 := BS.litN W l1 c1 f1 h1 n1 e1 W.heap.size rfl
  have b2 := BS.litN (W.alloc (.cells c1 5 f1)) l2 c2 f2 h2 n2 e2 (W.heap.size + 1) s1
  have b3 := BS.litN ((W.alloc (.cells c1 5 f1)).alloc (.cells c2 5 f2)) l3 c3 f3 h3 n3 e3 (W.heap.size + 1 + 1) s2
  have hbk := Blk.new (((W.alloc (.cells c1 5 f1)).alloc (.cells c2 5 f2)).alloc (.cells c3 5 f3)) t #[.slice (some ⟨W.heap.size, 0, none⟩) n1 n1, va, .slice (some ⟨W.heap.size + 1, 0, none⟩) n2 n2, vb, .slice (some ⟨W.heap.size + 1 + 1, 0, none⟩) n3 n3]
  rw [s3, hWf] at hbk
  have g1 := ((b1.alloc (.cells c2 5 f2)).alloc (.cells c3 5 f3)).alloc (.cells #[.slice (some ⟨W.heap.size, 0, none⟩) n1 n1, va, .slice (some ⟨W.heap.size + 1, 0, none⟩) n2 n2, vb, .slice (some ⟨W.heap.size + 1 + 1, 0, none⟩) n3 n3] t)
  have g2 := (b2.alloc (.cells c3 5 f3)).alloc (.cells #[.slice (some ⟨W.heap.size, 0, none⟩) n1 n1, va, .slice (some ⟨W.heap.size + 1, 0, none⟩) n2 n2, vb, .slice (some ⟨W.heap.size + 1 + 1, 0, none⟩) n3 n3] t)
  have g3 := b3.alloc (.cells #[.slice (some ⟨W.heap.size, 0, none⟩) n1 n1, va, .slice (some ⟨W.heap.size + 1, 0, none⟩) n2 n2, vb, .slice (some ⟨W.heap.size + 1 + 1, 0, none⟩) n3 n3] t)
  have ga := (((ha.alloc (.cells c1 5 f1)).alloc (.cells c2 5 f2)).alloc (.cells c3 5 f3)).alloc (.cells #[.slice (some ⟨W.heap.size, 0, none⟩) n1 n1, va, .slice (some ⟨W.heap.size + 1, 0, none⟩) n2 n2, vb, .slice (some ⟨W.heap.size + 1 + 1, 0, none⟩) n3 n3] t)
  have gb := (((hb.alloc (.cells c1 5 f1)).alloc (.cells c2 5 f2)).alloc (.cells c3 5 f3)).alloc (.cells #[.slice (some ⟨W.heap.size, 0, none⟩) n1 n1, va, .slice (some ⟨W.heap.size + 1, 0, none⟩) n2 n2, vb, .slice (some ⟨W.heap.size + 1 + 1, 0, none⟩) n3 n3] t)
  rw [hWf] at g1 g2 g3 ga gb
  have hbl : Below W.heap.size W Wf := by
    rw [← hWf]
    exact ((((Below.refl _ W).alloc (Nat.le_refl _) _).alloc (by simp) _).alloc (by simp; omega) _).alloc (by simp; omega) _
  refine ⟨?_, hbl⟩
  have h := concat_any (W.heap.size + 1 + 1 + 1) 0 5 5 [l1, a, l2, b, l3] Wf rfl (by decide) (by decide) hbk.lt (fun i l hi => by
    match i, hi with
    | 0, hi => obtain rfl : l1 = l := by simpa using hi
               exact ⟨_, by rw [hbk.cell]; rfl, g1⟩
    | 1, hi => obtain rfl : a = l := by simpa using hi
               exact ⟨_, by rw [hbk.cell]; rfl, ga⟩
    | 2, hi => obtain rfl : l2 = l := by simpa using hi
               exact ⟨_, by rw [hbk.cell]; rfl, g2⟩
    | 3, hi => obtain rfl : b = l := by simpa using hi
               exact ⟨_, by rw [hbk.cell]; rfl, gb⟩
    | 4, hi => obtain rfl : l3 = l := by simpa using hi
               exact ⟨_, by rw [hbk.cell]; rfl, g3⟩
    | i + 5, hi => simp at hi) (by simpa using hl)
  have e : ([l1, a, l2, b, l3] : List (List UInt8)).flatten = l1 ++ (a ++ (l2 ++ (b ++ l3))) := by simp
  rw [e] at h
  exact h
set_option maxRecDepth 100000 in
set_option maxHeartbeats 4000000 in
theorem limit_any (e : Int) (w : World) (h : e = 150 ∨ e = 151) : Calls Tryd.prog 40 #[.int .i64 e] w fun x w' => x = .returned (.bool true) ∧ w = w' := by
  rcases h with rfl | rfl
  all_goals
    go_enter Tryd.func40, Tryd.ntmps40
    go_wp2
    go_ret
    exact ⟨rfl, rfl⟩
def SWs (g1 g2 : Nat) (V0 V1 : Array Value) (w : World) (W : World) : Prop := Blk W g1 40 V0 ∧ Blk W g2 40 V1 ∧ Below w.heap.size w W
theorem rdF_of {W : World} {A : Option Addr} {xs : List Value} (h : Rd W A xs) : RdF W AllT A xs := fun hn => by
  obtain ⟨b, o, e, hb, hx⟩ := h hn
  exact ⟨b, o, e, hb, trivial, hx⟩
theorem same_list {W : World} {F F' : Nat → Prop} {c d : List Value} {v w : JV} (hv : VR W F c v) (hw : VR W F' d w) :
    VR (W.alloc (.cells (c ++ d).toArray 40)) AllT [.int .i64 5, .int .i64 0, .string ⟨#[]⟩, .slice (some ⟨W.heap.size, 0, none⟩) 2 2, .slice none 0 0] (.mk 5 0 [] [v, w] []) := by
  have hb := (Below.refl W.heap.size W).alloc (Nat.le_refl _) (.cells (c ++ d).toArray 40)
  have hv1 := (hv.mono (F' := AllT) (fun _ _ _ => trivial)).bel hb
  have hw1 := (hw.mono (F' := AllT) (fun _ _ _ => trivial)).bel hb
  have hr := rdF_of (Rd.of_blk (Blk.new W 40 (c ++ d).toArray))
  exact VR.into (keys := []) (css := [c, d]) 5 0 [] (by simpa using (VRs.nil.snoc hv1).snoc hw1) (Nat.le_refl 2) (Nat.le_refl 0) (fun h => by cases h) (fun _ => rfl) (by simpa using hr) RdF.nil rfl rfl
theorem same_obj {W : World} {F F' : Nat → Prop} {c d : List Value} {v w : JV} (hv : VR W F c v) (hw : VR W F' d w) :
    VR ((W.alloc (.cells #[.string ⟨#[97]⟩, .string ⟨#[98]⟩] 9)).alloc (.cells (c ++ d).toArray 40)) AllT [.int .i64 6, .int .i64 0, .string ⟨#[]⟩, .slice (some ⟨W.heap.size + 1, 0, none⟩) 2 2, .slice (some ⟨W.heap.size, 0, none⟩) 2 2] (.mk 6 0 [] [v, w] [[97], [98]]) := by
  have hb1 := (Below.refl W.heap.size W).alloc (Nat.le_refl _) (.cells #[.string ⟨#[97]⟩, .string ⟨#[98]⟩] 9)
  have hb := hb1.alloc hb1.size (.cells (c ++ d).toArray 40)
  have hv1 := (hv.mono (F' := AllT) (fun _ _ _ => trivial)).bel hb
  have hw1 := (hw.mono (F' := AllT) (fun _ _ _ => trivial)).bel hb
  have hr := rdF_of (Rd.of_blk (Blk.new (W.alloc (.cells #[.string ⟨#[97]⟩, .string ⟨#[98]⟩] 9)) 40 (c ++ d).toArray))
  rw [World.size_alloc] at hr
  have hk := rdF_of (Rd.of_blk ((Blk.new W 9 #[.string ⟨#[97]⟩, .string ⟨#[98]⟩]).alloc (.cells (c ++ d).toArray 40)))
  exact VR.into (keys := [[97], [98]]) (css := [c, d]) 6 0 [] (by simpa using (VRs.nil.snoc hv1).snoc hw1) (Nat.le_refl 2) (Nat.le_refl 2) (fun h => by cases h) (fun h => by cases h) (by simpa using hr) (by simpa [strV] using hk) rfl rfl
set_option maxRecDepth 100000 in
set_option maxHeartbeats 4000000 in
theorem parseWithin_any (v : Value) (x : List UInt8) (u : Value) (y : List UInt8) (w : World) (hG : GOK w) (hv : BS w v x) (hx : x.length ≤ 9223372036854775807) (hu : BS w u y) (hy : y.length ≤ 9223372036854775807) :
    Calls Tryd.prog 14 #[v, u] w (TrueS w) := by
  have HW := Lib.hid (wakes5_any w hG)
  have HG := Lib.hid hG
  clear hG
  obtain ⟨A, ca, rfl, hca, hra⟩ := hv
  obtain ⟨B, cb, rfl, hcb, hrb⟩ := hu
  obtain ⟨n, hn⟩ : ∃ n, min x.length 900 = n := ⟨_, rfl⟩
  obtain ⟨m, hm⟩ : ∃ m, min y.length 900 = m := ⟨_, rfl⟩
  have hn1 : min (x.length : Int) 900 = (n : Int) := by omega
  have hm1 : min (y.length : Int) 900 = (m : Int) := by omega
  have hnc : n ≤ ca := by omega
  have hmc : m ≤ cb := by omega
  have HA := Lib.hid (BS.takeM (n := n) ⟨A, ca, rfl, hca, hra⟩ (by omega))
  have HB := Lib.hid (BS.takeM (n := m) ⟨B, cb, rfl, hcb, hrb⟩ (by omega))
  have hal : (x.take n).length = n := by rw [List.length_take]; omega
  have hbl : (y.take m).length = m := by rw [List.length_take]; omega
  have hn9 : n ≤ 900 := by omega
  have hm9 : m ≤ 900 := by omega
  clear hra hrb hn hm
  generalize x.take n = a at HA hal
  generalize y.take m = b at HB hbl
  have HAL := Lib.hid hal
  have HBL := Lib.hid hbl
  clear hal hbl
  have hcv0 := fun (w : World) (C : Array Value) (n c : Nat) => Lib.run_convert_bytes_const (P := Tryd.prog) w 36 5 C n c Tryd.underlying36 Tryd.underlying5
  have hcv1 := fun (w : World) (o : Obj) (C : Array Value) (n c : Nat) => Lib.run_convert_bytes_const (P := Tryd.prog) (w.alloc o) 36 5 C n c Tryd.underlying36 Tryd.underlying5
  have hcv2 := fun (w : World) (o o' : Obj) (C : Array Value) (n c : Nat) => Lib.run_convert_bytes_const (P := Tryd.prog) ((w.alloc o).alloc o') 36 5 C n c Tryd.underlying36 Tryd.underlying5
  simp only [World.size_alloc] at hcv1 hcv2
  go_enter Tryd.func14, Tryd.ntmps14
  go_wp2_with fail
  refine HW.out.mono ?_
  rintro e w1 ⟨rfl, hb1⟩
  have HB1 := Lib.hid hb1
  clear hb1
  go_wp2
  go_quiet (fail)
  have HBn := Lib.hid (bel_drewN HB1.out nq)
  obtain ⟨W2, hW2⟩ : ∃ W2, w1.drewN nq = W2 := ⟨_, rfl⟩
  rw [hW2] at HBn ⊢
  clear hW2
  have hP := Lib.hid (parseParse_any (.slice A n ca) a W2 (HG.out.keep HBn.out) (HA.out.below HBn.out) (by rw [HAL.out]; omega))
  go_wp2_with fail
  refine hP.out.mono ?_
  rintro e w3 ⟨⟨jv, av, ev⟩, hov, cs, rfl, hvr, hb3⟩
  obtain ⟨k0, n0, s0, A0, na0, ca0, B0, nb0, cb0, rfl⟩ := hvr.form
  have hk4 := Blk.new w3 40 #[.int .i64 k0, .int .i64 n0, .string s0, .slice A0 na0 ca0, .slice B0 nb0 cb0]
  have hb34 := (Below.refl w3.heap.size w3).alloc (Nat.le_refl _) (.cells #[.int .i64 k0, .int .i64 n0, .string s0, .slice A0 na0 ca0, .slice B0 nb0 cb0] 40)
  obtain ⟨W4, hW4⟩ : ∃ W4, w3.alloc (.cells #[.int .i64 k0, .int .i64 n0, .string s0, .slice A0 na0 ca0, .slice B0 nb0 cb0] 40) = W4 := ⟨_, rfl⟩
  rw [hW4] at hk4 hb34
  have HB4 := Lib.hid ((HBn.out.trans (hb3.mono HBn.out.size)).trans (hb34.mono (HBn.out.trans (hb3.mono HBn.out.size)).size))
  have HW4 := Lib.hid hW4
  have HK4 := Lib.hid hk4
  have HV4 := Lib.hid (hvr.bel hb34)
  have HOV := Lib.hid hov
  have hQ := Lib.hid (parseParse_any (.slice B m cb) b W4 (HG.out.keep HB4.out) (HB.out.below HB4.out) (by rw [HBL.out]; omega))
  clear hW4 hk4 hb34 hb3 hvr hP hov HW HB1
  go_upto_region 5 with (fail)
  rw [HW4.out]
  clear HW4
  go_wp2_with fail
  refine hQ.out.mono ?_
  rintro e w5 ⟨⟨jw, aw, ew⟩, how, cs', rfl, hvr', hb5⟩
  obtain ⟨k1, n1, s1, A1, na1, ca1, B1, nb1, cb1, rfl⟩ := hvr'.form
  have hk6' := Blk.new w5 40 #[.int .i64 k1, .int .i64 n1, .string s1, .slice A1 na1 ca1, .slice B1 nb1 cb1]
  have hb56 := (Below.refl w5.heap.size w5).alloc (Nat.le_refl _) (.cells #[.int .i64 k1, .int .i64 n1, .string s1, .slice A1 na1 ca1, .slice B1 nb1 cb1] 40)
  have hk5 := HK4.out.keep hb5
  have hs5 : w3.heap.size < w5.heap.size := hk5.lt
  obtain ⟨W6, hW6⟩ : ∃ W6, w5.alloc (.cells #[.int .i64 k1, .int .i64 n1, .string s1, .slice A1 na1 ca1, .slice B1 nb1 cb1] 40) = W6 := ⟨_, rfl⟩
  rw [hW6] at hk6' hb56
  have hb46 := hb5.trans (hb56.mono hb5.size)
  have HB6 := Lib.hid (HB4.out.trans (hb46.mono HB4.out.size))
  have HW6 := Lib.hid hW6
  have HK6 := Lib.hid (hk5.keep hb56)
  have HK6' := Lib.hid hk6'
  have HV6 := Lib.hid (HV4.out.bel hb46)
  have HV6' := Lib.hid (hvr'.bel hb56)
  have HOW := Lib.hid how
  clear hW6 hk6' hb56 hk5 hb46 hb5 hvr' hQ how HB4 HK4 HV4
  go_upto_region 6 with (fail)
  rw [HW6.out]
  clear HW6
  have HLL := Lib.hid (show (listRow a b).length = n + m + 4 by unfold listRow; simp only [List.length_append, List.length_cons, List.length_nil, HAL.out, HBL.out]; omega)
  have HLO := Lib.hid (show (objRow 98 97 a b).length = n + m + 12 by unfold objRow; simp only [List.length_append, List.length_cons, List.length_nil, HAL.out, HBL.out]; omega)
  have HLT := Lib.hid (show (objRow 97 98 b a).length = n + m + 12 by unfold objRow; simp only [List.length_append, List.length_cons, List.length_nil, HAL.out, HBL.out]; omega)
  have HKv := HK6
  have HKw := HK6'
  have HVv := HV6
  have HVw := HV6'
  clear HK6 HK6' HV6 HV6'
  go_wp2_with fail
  obtain ⟨WcL, hWc⟩ : ∃ Wc, ((((W6.alloc (.cells #[.int .u8 91] 5 (1, 2))).alloc (.cells #[.int .u8 32, .int .u8 44] 5 (2, 3))).alloc (.cells #[.int .u8 93] 5 (1, 2))).alloc (.cells #[.slice (some ⟨W6.heap.size, 0, none⟩) 1 1, .slice A n ca, .slice (some ⟨W6.heap.size + 1, 0, none⟩) 2 2, .slice B m cb, .slice (some ⟨W6.heap.size + 1 + 1, 0, none⟩) 1 1] 36)) = Wc := ⟨_, rfl⟩
  have HC := Lib.hid (concat5_any (l1 := [91]) (l2 := [32, 44]) (l3 := [93]) #[.int .u8 91] #[.int .u8 32, .int .u8 44] #[.int .u8 93] (1, 2) (2, 3) (1, 2) 1 2 1 36 (by rfl) (by rfl) (by rfl) rfl rfl rfl (HA.out.below HB6.out) (HB.out.below HB6.out) (by simp only [List.length_append, List.length_cons, List.length_nil, HAL.out, HBL.out]; omega) WcL hWc)
  rw [hWc]
  clear hWc
  refine HC.out.1.mono ?_
  rintro e waL ⟨vaL, rfl, hva, hba⟩
  have hbb := HC.out.2.trans (hba.mono HC.out.2.size)
  have HBLa := Lib.hid (HB6.out.trans (hbb.mono HB6.out.size))
  have hP := Lib.hid (show Calls Tryd.prog 27 #[vaL] waL (ParsePost (listRow a b) waL) from parseParse_any vaL (listRow a b) waL (HG.out.keep HBLa.out) hva (by rw [HLL.out]; omega))
  replace HKv := Lib.hid (HKv.out.keep hbb)
  replace HVv := Lib.hid (HVv.out.bel hbb)
  replace HKw := Lib.hid (HKw.out.keep hbb)
  replace HVw := Lib.hid (HVw.out.bel hbb)
  clear hva hba hbb HC HB6
  go_wp2_with fail
  refine hP.out.mono ?_
  rintro e wbL ⟨⟨jL, aL, eL⟩, ho, csL, rfl, hvr, hbc⟩
  obtain ⟨kL, nL, sL, AL, naL, caL, BL, nbL, cbL, rfl⟩ := hvr.form
  have hk := Blk.new wbL 40 #[.int .i64 kL, .int .i64 nL, .string sL, .slice AL naL caL, .slice BL nbL cbL]
  have hbd := (Below.refl wbL.heap.size wbL).alloc (Nat.le_refl _) (.cells #[.int .i64 kL, .int .i64 nL, .string sL, .slice AL naL caL, .slice BL nbL cbL] 40)
  obtain ⟨WL, hW⟩ : ∃ WL, wbL.alloc (.cells #[.int .i64 kL, .int .i64 nL, .string sL, .slice AL naL caL, .slice BL nbL cbL] 40) = WL := ⟨_, rfl⟩
  rw [hW] at hk hbd
  have HW := Lib.hid hW
  have hbe := hbc.trans (hbd.mono hbc.size)
  have HBLl := Lib.hid (HBLa.out.trans (hbe.mono HBLa.out.size))
  replace HKv := Lib.hid (HKv.out.keep hbe)
  replace HVv := Lib.hid (HVv.out.bel hbe)
  replace HKw := Lib.hid (HKw.out.keep hbe)
  replace HVw := Lib.hid (HVw.out.bel hbe)
  have HKL := Lib.hid hk
  have HVL := Lib.hid (hvr.bel hbd)
  have HOL := Lib.hid ho
  clear hW hk hbd hbe hbc hvr hP ho HBLa
  go_upto_region 7 with (fail)
  rw [HW.out]
  clear HW
  go_wp2_with fail
  obtain ⟨WcO, hWc⟩ : ∃ Wc, ((((WL.alloc (.cells #[.int .u8 123, .int .u8 34, .int .u8 98, .int .u8 34, .int .u8 58] 5 (5, 6))).alloc (.cells #[.int .u8 44, .int .u8 34, .int .u8 97, .int .u8 34, .int .u8 32, .int .u8 58] 5 (6, 7))).alloc (.cells #[.int .u8 125] 5 (1, 2))).alloc (.cells #[.slice (some ⟨WL.heap.size, 0, none⟩) 5 5, .slice A n ca, .slice (some ⟨WL.heap.size + 1, 0, none⟩) 6 6, .slice B m cb, .slice (some ⟨WL.heap.size + 1 + 1, 0, none⟩) 1 1] 36)) = Wc := ⟨_, rfl⟩
  have HC := Lib.hid (concat5_any (l1 := [123, 34, 98, 34, 58]) (l2 := [44, 34, 97, 34, 32, 58]) (l3 := [125]) #[.int .u8 123, .int .u8 34, .int .u8 98, .int .u8 34, .int .u8 58] #[.int .u8 44, .int .u8 34, .int .u8 97, .int .u8 34, .int .u8 32, .int .u8 58] #[.int .u8 125] (5, 6) (6, 7) (1, 2) 5 6 1 36 (by rfl) (by rfl) (by rfl) rfl rfl rfl (HA.out.below HBLl.out) (HB.out.below HBLl.out) (by simp only [List.length_append, List.length_cons, List.length_nil, HAL.out, HBL.out]; omega) WcO hWc)
  rw [hWc]
  clear hWc
  refine HC.out.1.mono ?_
  rintro e waO ⟨vaO, rfl, hva, hba⟩
  have hbb := HC.out.2.trans (hba.mono HC.out.2.size)
  have HBOa := Lib.hid (HBLl.out.trans (hbb.mono HBLl.out.size))
  have hP := Lib.hid (show Calls Tryd.prog 27 #[vaO] waO (ParsePost (objRow 98 97 a b) waO) from parseParse_any vaO (objRow 98 97 a b) waO (HG.out.keep HBOa.out) hva (by rw [HLO.out]; omega))
  replace HKv := Lib.hid (HKv.out.keep hbb)
  replace HVv := Lib.hid (HVv.out.bel hbb)
  replace HKw := Lib.hid (HKw.out.keep hbb)
  replace HVw := Lib.hid (HVw.out.bel hbb)
  replace HKL := Lib.hid (HKL.out.keep hbb)
  replace HVL := Lib.hid (HVL.out.bel hbb)
  clear hva hba hbb HC HBLl
  go_wp2_with fail
  refine hP.out.mono ?_
  rintro e wbO ⟨⟨jO, aO, eO⟩, ho, csO, rfl, hvr, hbc⟩
  obtain ⟨kO, nO, sO, AO, naO, caO, BO, nbO, cbO, rfl⟩ := hvr.form
  have hk := Blk.new wbO 40 #[.int .i64 kO, .int .i64 nO, .string sO, .slice AO naO caO, .slice BO nbO cbO]
  have hbd := (Below.refl wbO.heap.size wbO).alloc (Nat.le_refl _) (.cells #[.int .i64 kO, .int .i64 nO, .string sO, .slice AO naO caO, .slice BO nbO cbO] 40)
  obtain ⟨WO, hW⟩ : ∃ WO, wbO.alloc (.cells #[.int .i64 kO, .int .i64 nO, .string sO, .slice AO naO caO, .slice BO nbO cbO] 40) = WO := ⟨_, rfl⟩
  rw [hW] at hk hbd
  have HW := Lib.hid hW
  have hbe := hbc.trans (hbd.mono hbc.size)
  have HBO := Lib.hid (HBOa.out.trans (hbe.mono HBOa.out.size))
  replace HKv := Lib.hid (HKv.out.keep hbe)
  replace HVv := Lib.hid (HVv.out.bel hbe)
  replace HKw := Lib.hid (HKw.out.keep hbe)
  replace HVw := Lib.hid (HVw.out.bel hbe)
  replace HKL := Lib.hid (HKL.out.keep hbe)
  replace HVL := Lib.hid (HVL.out.bel hbe)
  have HKO := Lib.hid hk
  have HVO := Lib.hid (hvr.bel hbd)
  have HOO := Lib.hid ho
  clear hW hk hbd hbe hbc hvr hP ho HBOa
  go_upto_region 8 with (fail)
  rw [HW.out]
  clear HW
  go_wp2_with fail
  obtain ⟨WcT, hWc⟩ : ∃ Wc, ((((WO.alloc (.cells #[.int .u8 123, .int .u8 34, .int .u8 97, .int .u8 34, .int .u8 58] 5 (5, 6))).alloc (.cells #[.int .u8 44, .int .u8 34, .int .u8 98, .int .u8 34, .int .u8 32, .int .u8 58] 5 (6, 7))).alloc (.cells #[.int .u8 125] 5 (1, 2))).alloc (.cells #[.slice (some ⟨WO.heap.size, 0, none⟩) 5 5, .slice B m cb, .slice (some ⟨WO.heap.size + 1, 0, none⟩) 6 6, .slice A n ca, .slice (some ⟨WO.heap.size + 1 + 1, 0, none⟩) 1 1] 36)) = Wc := ⟨_, rfl⟩
  have HC := Lib.hid (concat5_any (l1 := [123, 34, 97, 34, 58]) (l2 := [44, 34, 98, 34, 32, 58]) (l3 := [125]) #[.int .u8 123, .int .u8 34, .int .u8 97, .int .u8 34, .int .u8 58] #[.int .u8 44, .int .u8 34, .int .u8 98, .int .u8 34, .int .u8 32, .int .u8 58] #[.int .u8 125] (5, 6) (6, 7) (1, 2) 5 6 1 36 (by rfl) (by rfl) (by rfl) rfl rfl rfl (HB.out.below HBO.out) (HA.out.below HBO.out) (by simp only [List.length_append, List.length_cons, List.length_nil, HAL.out, HBL.out]; omega) WcT hWc)
  rw [hWc]
  clear hWc
  refine HC.out.1.mono ?_
  rintro e waT ⟨vaT, rfl, hva, hba⟩
  have hbb := HC.out.2.trans (hba.mono HC.out.2.size)
  have HBTa := Lib.hid (HBO.out.trans (hbb.mono HBO.out.size))
  have hP := Lib.hid (show Calls Tryd.prog 27 #[vaT] waT (ParsePost (objRow 97 98 b a) waT) from parseParse_any vaT (objRow 97 98 b a) waT (HG.out.keep HBTa.out) hva (by rw [HLT.out]; omega))
  replace HKv := Lib.hid (HKv.out.keep hbb)
  replace HVv := Lib.hid (HVv.out.bel hbb)
  replace HKw := Lib.hid (HKw.out.keep hbb)
  replace HVw := Lib.hid (HVw.out.bel hbb)
  replace HKL := Lib.hid (HKL.out.keep hbb)
  replace HVL := Lib.hid (HVL.out.bel hbb)
  replace HKO := Lib.hid (HKO.out.keep hbb)
  replace HVO := Lib.hid (HVO.out.bel hbb)
  clear hva hba hbb HC HBO
  go_wp2_with fail
  refine hP.out.mono ?_
  rintro e wbT ⟨⟨jT, aT, eT⟩, ho, csT, rfl, hvr, hbc⟩
  obtain ⟨kT, nT, sT, AT, naT, caT, BT, nbT, cbT, rfl⟩ := hvr.form
  have hk := Blk.new wbT 40 #[.int .i64 kT, .int .i64 nT, .string sT, .slice AT naT caT, .slice BT nbT cbT]
  have hbd := (Below.refl wbT.heap.size wbT).alloc (Nat.le_refl _) (.cells #[.int .i64 kT, .int .i64 nT, .string sT, .slice AT naT caT, .slice BT nbT cbT] 40)
  obtain ⟨WT, hW⟩ : ∃ WT, wbT.alloc (.cells #[.int .i64 kT, .int .i64 nT, .string sT, .slice AT naT caT, .slice BT nbT cbT] 40) = WT := ⟨_, rfl⟩
  rw [hW] at hk hbd
  have HW := Lib.hid hW
  have hbe := hbc.trans (hbd.mono hbc.size)
  have HBT := Lib.hid (HBTa.out.trans (hbe.mono HBTa.out.size))
  replace HKv := Lib.hid (HKv.out.keep hbe)
  replace HVv := Lib.hid (HVv.out.bel hbe)
  replace HKw := Lib.hid (HKw.out.keep hbe)
  replace HVw := Lib.hid (HVw.out.bel hbe)
  replace HKL := Lib.hid (HKL.out.keep hbe)
  replace HVL := Lib.hid (HVL.out.bel hbe)
  replace HKO := Lib.hid (HKO.out.keep hbe)
  replace HVO := Lib.hid (HVO.out.bel hbe)
  have HKT := Lib.hid hk
  have HVT := Lib.hid (hvr.bel hbd)
  have HOT := Lib.hid ho
  clear hW hk hbd hbe hbc hvr hP ho HBTa
  go_upto_region 9 with (fail)
  rw [HW.out]
  clear HW
  by_cases hev : ev = 0
  · by_cases hew : ew = 0
    · subst hev
      subst hew
      obtain ⟨_, hRv, hNv, qv, gv⟩ := good_of HOV.out
      obtain ⟨_, hRw, hNw, qw, gw⟩ := good_of HOW.out
      have oL := within_out (by rw [HLL.out]; omega) (list_law gv gw (by rw [HLL.out]; omega)) (by rw [nodesJ, nodesL, nodesL, nodesL]; omega) (by show jv ∈ [jv, jw]; simp) (by show jw ∈ [jv, jw]; simp) HOL.out
      have oO := within_out (by rw [HLO.out]; omega) (obj_law (c1 := 98) (c2 := 97) (by decide) kb1 ka2 gv gw (by rw [HLO.out]; omega)) (by rw [sort_ba, nodesJ, nodesL, nodesL, nodesL]; omega) (by rw [sort_ba]; show jv ∈ [jw, jv]; simp) (by rw [sort_ba]; show jw ∈ [jw, jv]; simp) HOO.out
      have oT := within_out (by rw [HLT.out]; omega) (obj_law (c1 := 97) (c2 := 98) (by decide) ka1 kb2 gw gv (by rw [HLT.out]; omega)) (by rw [sort_ab, nodesJ, nodesL, nodesL, nodesL]; omega) (by rw [sort_ab]; show jw ∈ [jw, jv]; simp) (by rw [sort_ab]; show jv ∈ [jw, jv]; simp) HOT.out
      have hboth := both_iff hRv hRw
      have hdv8 := right_dpt hRv
      have hdw8 := right_dpt hRw
      obtain ⟨dv, hdv⟩ : ∃ dv : Nat, dpt (flatJ 0 jv) = dv := ⟨_, rfl⟩
      obtain ⟨dw, hdw⟩ : ∃ dw : Nat, dpt (flatJ 0 jw) = dw := ⟨_, rfl⟩
      obtain ⟨nv, hnv⟩ : ∃ nv : Nat, nodesJ jv = nv := ⟨_, rfl⟩
      obtain ⟨nw, hnw⟩ : ∃ nw : Nat, nodesJ jw = nw := ⟨_, rfl⟩
      have HDv := Lib.hid (fun W (h : Below w.heap.size w W) (hb : Below WT.heap.size WT W) => show Calls Tryd.prog 38 #[.agg #[.int .i64 k0, .int .i64 n0, .string s0, .slice A0 na0 ca0, .slice B0 nb0 cb0]] W fun e w' => e = .returned (.int .i64 (dv : Int)) ∧ Below W.heap.size W w' by rw [← hdv]; exact vDepth_any jv [.int .i64 k0, .int .i64 n0, .string s0, .slice A0 na0 ca0, .slice B0 nb0 cb0] _ W (HG.out.keep h) (HVv.out.bel hb) hRv hNv)
      have HDw := Lib.hid (fun W (h : Below w.heap.size w W) (hb : Below WT.heap.size WT W) => show Calls Tryd.prog 38 #[.agg #[.int .i64 k1, .int .i64 n1, .string s1, .slice A1 na1 ca1, .slice B1 nb1 cb1]] W fun e w' => e = .returned (.int .i64 (dw : Int)) ∧ Below W.heap.size W w' by rw [← hdw]; exact vDepth_any jw [.int .i64 k1, .int .i64 n1, .string s1, .slice A1 na1 ca1, .slice B1 nb1 cb1] _ W (HG.out.keep h) (HVw.out.bel hb) hRw hNw)
      have HNv := Lib.hid (fun W (h : Below w.heap.size w W) (hb : Below WT.heap.size WT W) => show Calls Tryd.prog 39 #[.agg #[.int .i64 k0, .int .i64 n0, .string s0, .slice A0 na0 ca0, .slice B0 nb0 cb0]] W fun e w' => e = .returned (.int .i64 (nv : Int)) ∧ Below W.heap.size W w' by rw [← hnv]; exact vNodes_any jv [.int .i64 k0, .int .i64 n0, .string s0, .slice A0 na0 ca0, .slice B0 nb0 cb0] _ W (HG.out.keep h) (HVv.out.bel hb) hRv hNv)
      have HNw := Lib.hid (fun W (h : Below w.heap.size w W) (hb : Below WT.heap.size WT W) => show Calls Tryd.prog 39 #[.agg #[.int .i64 k1, .int .i64 n1, .string s1, .slice A1 na1 ca1, .slice B1 nb1 cb1]] W fun e w' => e = .returned (.int .i64 (nw : Int)) ∧ Below W.heap.size W w' by rw [← hnw]; exact vNodes_any jw [.int .i64 k1, .int .i64 n1, .string s1, .slice A1 na1 ca1, .slice B1 nb1 cb1] _ W (HG.out.keep h) (HVw.out.bel hb) hRw hNw)
      rw [hdv, hdw, hnv, hnw] at hboth
      rw [hdv] at hdv8
      rw [hdw] at hdw8
      have hnv9 : nv ≤ 256 := by omega
      have hnw9 : nw ≤ 256 := by omega
      have hadd : IntKind.i64.wrap ((nv : Int) + (nw : Int)) = (nv : Int) + (nw : Int) := IntWalk.i64_in _ (by omega)
      have hS0 : SWs w3.heap.size w5.heap.size #[.int .i64 k0, .int .i64 n0, .string s0, .slice A0 na0 ca0, .slice B0 nb0 cb0] #[.int .i64 k1, .int .i64 n1, .string s1, .slice A1 na1 ca1, .slice B1 nb1 cb1] w WT.drew := ⟨HKv.out.drew, HKw.out.drew, HBT.out.drew⟩
      have hDD0 : Below WT.heap.size WT WT.drew := (Below.refl _ WT).drew
      clear gv gw hdv hdw HOL HOO HOT HOV HOW
      go_wp2
      by_cases hlt : (dv : Int) < (dw : Int)
      · by_cases h8 : dw = 8
        · have h8b : ((dw : Int) == 8) = true := by simp; omega
          have hnb : ¬ Both jv jw := fun h => by have := hboth.1 h; omega
          rcases oL with ⟨hb, _⟩ | ⟨_, pL, xL, hoL, heL⟩
          · exact absurd hb hnb
          rcases oO with ⟨hb, _⟩ | ⟨_, pO, xO, hoO, heO⟩
          · exact absurd hb hnb
          rcases oT with ⟨hb, _⟩ | ⟨_, pT, xT, hoT, heT⟩
          · exact absurd hb (fun h => hnb ⟨h.2.1, h.1, by have := h.2.2; omega⟩)
          simp only [Prod.mk.injEq] at hoL hoO hoT
          obtain ⟨_, _, rfl⟩ := hoL
          obtain ⟨_, _, rfl⟩ := hoO
          obtain ⟨_, _, rfl⟩ := hoT
          clear hboth hnb
          refine wp_region_held_drew (S := SWs w3.heap.size w5.heap.size #[.int .i64 k0, .int .i64 n0, .string s0, .slice A0 na0 ca0, .slice B0 nb0 cb0] #[.int .i64 k1, .int .i64 n1, .string s1, .slice A1 na1 ca1, .slice B1 nb1 cb1] w) (by kernel_rfl) hS0 (fun hHeld => ?_)
          refine wpAnyH_take (i := 0) (oi := ⟨some 98, _, _, _, _, _⟩) (v := .agg #[.int .i64 k0, .int .i64 n0, .string s0, .slice A0 na0 ca0, .slice B0 nb0 cb0]) rfl (by kernel_rfl) (by kernel_rfl) (by kernel_rfl) (fun _ _ _ h => h) (Or.inl ⟨by kernel_rfl, ?_⟩) (by assumption) ?_
          · intro w' hSw; obtain ⟨q1, q2, q3⟩ := hSw.1.rules; obtain ⟨p1, p2, p3⟩ := hSw.2.1.rules; go_simp
          try simp only [Act.put, List.setIfInBounds_toArray, List.set_cons_zero, List.set_cons_succ]
          refine wpAnyH_take (i := 2) (oi := ⟨some 100, _, _, _, _, _⟩) (v := .agg #[.int .i64 k1, .int .i64 n1, .string s1, .slice A1 na1 ca1, .slice B1 nb1 cb1]) rfl (by kernel_rfl) (by kernel_rfl) (by kernel_rfl) (fun _ _ _ h => h) (Or.inl ⟨by kernel_rfl, ?_⟩) (by assumption) ?_
          · intro w' hSw; obtain ⟨q1, q2, q3⟩ := hSw.1.rules; obtain ⟨p1, p2, p3⟩ := hSw.2.1.rules; go_simp
          try simp only [Act.put, List.setIfInBounds_toArray, List.set_cons_zero, List.set_cons_succ]
          refine wpAnyH_ready (rs := [1]) (by kernel_rfl) (by simp) ?_
          refine AllReadyH.cons (o := ⟨some 99, _, _, _, _, _⟩) rfl (fun K hK => ?_) AllReadyH.nil
          go_simp
          refine (HDv.out _ hS0.2.2 hDD0).mono ?_
          rintro e d1 ⟨rfl, hd1⟩
          have hS1 : SWs w3.heap.size w5.heap.size #[.int .i64 k0, .int .i64 n0, .string s0, .slice A0 na0 ca0, .slice B0 nb0 cb0] #[.int .i64 k1, .int .i64 n1, .string s1, .slice A1 na1 ca1, .slice B1 nb1 cb1] w d1 := ⟨hS0.1.keep hd1, hS0.2.1.keep hd1, hS0.2.2.trans (hd1.mono hS0.2.2.size)⟩
          have hDD1 := hDD0.trans (hd1.mono hDD0.size)
          refine hK.out _ _ hS1 (fun hHeld1 => ?_)
          clear hK K
          try simp only [Act.put, List.setIfInBounds_toArray, List.set_cons_zero, List.set_cons_succ]
          refine wpAnyH_ready (rs := [3]) (by kernel_rfl) (by simp) ?_
          refine AllReadyH.cons (o := ⟨some 101, _, _, _, _, _⟩) rfl (fun K hK => ?_) AllReadyH.nil
          go_simp
          refine (HDw.out _ hS1.2.2 hDD1).mono ?_
          rintro e d2 ⟨rfl, hd2⟩
          have hS2 : SWs w3.heap.size w5.heap.size #[.int .i64 k0, .int .i64 n0, .string s0, .slice A0 na0 ca0, .slice B0 nb0 cb0] #[.int .i64 k1, .int .i64 n1, .string s1, .slice A1 na1 ca1, .slice B1 nb1 cb1] w d2 := ⟨hS1.1.keep hd2, hS1.2.1.keep hd2, hS1.2.2.trans (hd2.mono hS1.2.2.size)⟩
          have hDD2 := hDD1.trans (hd2.mono hDD1.size)
          refine hK.out _ _ hS2 (fun hHeld2 => ?_)
          clear hK K
          try simp only [Act.put, List.setIfInBounds_toArray, List.set_cons_zero, List.set_cons_succ]
          refine wpAnyH_take (i := 4) (oi := ⟨some 102, _, _, _, _, _⟩) (v := .int .i64 dw) rfl (by kernel_rfl) (by kernel_rfl) (by kernel_rfl) (fun _ _ _ h => h) (Or.inl ⟨by kernel_rfl, ?_⟩) (by assumption) ?_
          · intro w' hSw; obtain ⟨q1, q2, q3⟩ := hSw.1.rules; obtain ⟨p1, p2, p3⟩ := hSw.2.1.rules; go_simp; omega
          try simp only [Act.put, List.setIfInBounds_toArray, List.set_cons_zero, List.set_cons_succ]
          refine wpAnyH_take (i := 5) (oi := ⟨some 103, _, _, _, _, _⟩) (v := .bool true) rfl (by kernel_rfl) (by kernel_rfl) (by kernel_rfl) (fun _ _ _ h => h) (Or.inl ⟨by kernel_rfl, ?_⟩) (by assumption) ?_
          · intro w' hSw; obtain ⟨q1, q2, q3⟩ := hSw.1.rules; obtain ⟨p1, p2, p3⟩ := hSw.2.1.rules; go_simp
          try simp only [Act.put, List.setIfInBounds_toArray, List.set_cons_zero, List.set_cons_succ]
          refine wpAnyH_take (i := 6) (oi := ⟨some 104, _, _, _, _, _⟩) (v := .bool true) rfl (by kernel_rfl) (by kernel_rfl) (by kernel_rfl) (fun _ _ _ h => h) (Or.inl ⟨by kernel_rfl, ?_⟩) (by assumption) ?_
          · intro w' hSw; obtain ⟨q1, q2, q3⟩ := hSw.1.rules; obtain ⟨p1, p2, p3⟩ := hSw.2.1.rules; go_simp
          try simp only [Act.put, List.setIfInBounds_toArray, List.set_cons_zero, List.set_cons_succ]
          refine wpAnyH_take (i := 7) (oi := ⟨some 105, _, _, _, _, _⟩) (v := undef) rfl (by kernel_rfl) (by kernel_rfl) (by kernel_rfl) (fun _ _ _ h => h) (Or.inr ⟨by kernel_rfl, rfl⟩) (by assumption) ?_
          try simp only [Act.put, List.setIfInBounds_toArray, List.set_cons_zero, List.set_cons_succ]
          refine wpAnyH_take (i := 8) (oi := ⟨some 106, _, _, _, _, _⟩) (v := undef) rfl (by kernel_rfl) (by kernel_rfl) (by kernel_rfl) (fun _ _ _ h => h) (Or.inr ⟨by kernel_rfl, rfl⟩) (by assumption) ?_
          try simp only [Act.put, List.setIfInBounds_toArray, List.set_cons_zero, List.set_cons_succ]
          refine wpAnyH_take (i := 9) (oi := ⟨some 107, _, _, _, _, _⟩) (v := undef) rfl (by kernel_rfl) (by kernel_rfl) (by kernel_rfl) (fun _ _ _ h => h) (Or.inr ⟨by kernel_rfl, rfl⟩) (by assumption) ?_
          try simp only [Act.put, List.setIfInBounds_toArray, List.set_cons_zero, List.set_cons_succ]
          refine wpAnyH_take (i := 10) (oi := ⟨some 108, _, _, _, _, _⟩) (v := undef) rfl (by kernel_rfl) (by kernel_rfl) (by kernel_rfl) (fun _ _ _ h => h) (Or.inr ⟨by kernel_rfl, rfl⟩) (by assumption) ?_
          try simp only [Act.put, List.setIfInBounds_toArray, List.set_cons_zero, List.set_cons_succ]
          refine wpAnyH_take (i := 11) (oi := ⟨some 109, _, _, _, _, _⟩) (v := undef) rfl (by kernel_rfl) (by kernel_rfl) (by kernel_rfl) (fun _ _ _ h => h) (Or.inr ⟨by kernel_rfl, rfl⟩) (by assumption) ?_
          try simp only [Act.put, List.setIfInBounds_toArray, List.set_cons_zero, List.set_cons_succ]
          refine wpAnyH_take (i := 12) (oi := ⟨some 110, _, _, _, _, _⟩) (v := undef) rfl (by kernel_rfl) (by kernel_rfl) (by kernel_rfl) (fun _ _ _ h => h) (Or.inr ⟨by kernel_rfl, rfl⟩) (by assumption) ?_
          try simp only [Act.put, List.setIfInBounds_toArray, List.set_cons_zero, List.set_cons_succ]
          refine wpAnyH_take (i := 13) (oi := ⟨some 111, _, _, _, _, _⟩) (v := .bool true) rfl (by kernel_rfl) (by kernel_rfl) (by kernel_rfl) (fun _ _ _ h => h) (Or.inl ⟨by kernel_rfl, ?_⟩) (by assumption) ?_
          · intro w' hSw; obtain ⟨q1, q2, q3⟩ := hSw.1.rules; obtain ⟨p1, p2, p3⟩ := hSw.2.1.rules; go_simp
          try simp only [Act.put, List.setIfInBounds_toArray, List.set_cons_zero, List.set_cons_succ]
          refine wpAnyH_done (by kernel_rfl) ?_ _
          go_wp2_with fail
          refine (limit_any _ _ heL).mono ?_
          rintro e u1 ⟨rfl, rfl⟩
          go_wp2_with fail
          refine (limit_any _ _ heO).mono ?_
          rintro e u1 ⟨rfl, rfl⟩
          go_wp2_with fail
          refine (limit_any _ _ heT).mono ?_
          rintro e u1 ⟨rfl, rfl⟩
          go_wp2
          go_ret
          exact ⟨rfl, hS2.2.2⟩
        · have h8b : ((dw : Int) == 8) = false := by simp; omega
          by_cases hge : 256 ≤ nv + nw
          · have hgi : (256 : Int) ≤ (nv : Int) + (nw : Int) := by omega
            have hnb : ¬ Both jv jw := fun h => by have := hboth.1 h; omega
            rcases oL with ⟨hb, _⟩ | ⟨_, pL, xL, hoL, heL⟩
            · exact absurd hb hnb
            rcases oO with ⟨hb, _⟩ | ⟨_, pO, xO, hoO, heO⟩
            · exact absurd hb hnb
            rcases oT with ⟨hb, _⟩ | ⟨_, pT, xT, hoT, heT⟩
            · exact absurd hb (fun h => hnb ⟨h.2.1, h.1, by have := h.2.2; omega⟩)
            simp only [Prod.mk.injEq] at hoL hoO hoT
            obtain ⟨_, _, rfl⟩ := hoL
            obtain ⟨_, _, rfl⟩ := hoO
            obtain ⟨_, _, rfl⟩ := hoT
            clear hboth hnb
            refine wp_region_held_drew (S := SWs w3.heap.size w5.heap.size #[.int .i64 k0, .int .i64 n0, .string s0, .slice A0 na0 ca0, .slice B0 nb0 cb0] #[.int .i64 k1, .int .i64 n1, .string s1, .slice A1 na1 ca1, .slice B1 nb1 cb1] w) (by kernel_rfl) hS0 (fun hHeld => ?_)
            refine wpAnyH_take (i := 0) (oi := ⟨some 98, _, _, _, _, _⟩) (v := .agg #[.int .i64 k0, .int .i64 n0, .string s0, .slice A0 na0 ca0, .slice B0 nb0 cb0]) rfl (by kernel_rfl) (by kernel_rfl) (by kernel_rfl) (fun _ _ _ h => h) (Or.inl ⟨by kernel_rfl, ?_⟩) (by assumption) ?_
            · intro w' hSw; obtain ⟨q1, q2, q3⟩ := hSw.1.rules; obtain ⟨p1, p2, p3⟩ := hSw.2.1.rules; go_simp
            try simp only [Act.put, List.setIfInBounds_toArray, List.set_cons_zero, List.set_cons_succ]
            refine wpAnyH_take (i := 2) (oi := ⟨some 100, _, _, _, _, _⟩) (v := .agg #[.int .i64 k1, .int .i64 n1, .string s1, .slice A1 na1 ca1, .slice B1 nb1 cb1]) rfl (by kernel_rfl) (by kernel_rfl) (by kernel_rfl) (fun _ _ _ h => h) (Or.inl ⟨by kernel_rfl, ?_⟩) (by assumption) ?_
            · intro w' hSw; obtain ⟨q1, q2, q3⟩ := hSw.1.rules; obtain ⟨p1, p2, p3⟩ := hSw.2.1.rules; go_simp
            try simp only [Act.put, List.setIfInBounds_toArray, List.set_cons_zero, List.set_cons_succ]
            refine wpAnyH_ready (rs := [1]) (by kernel_rfl) (by simp) ?_
            refine AllReadyH.cons (o := ⟨some 99, _, _, _, _, _⟩) rfl (fun K hK => ?_) AllReadyH.nil
            go_simp
            refine (HDv.out _ hS0.2.2 hDD0).mono ?_
            rintro e d1 ⟨rfl, hd1⟩
            have hS1 : SWs w3.heap.size w5.heap.size #[.int .i64 k0, .int .i64 n0, .string s0, .slice A0 na0 ca0, .slice B0 nb0 cb0] #[.int .i64 k1, .int .i64 n1, .string s1, .slice A1 na1 ca1, .slice B1 nb1 cb1] w d1 := ⟨hS0.1.keep hd1, hS0.2.1.keep hd1, hS0.2.2.trans (hd1.mono hS0.2.2.size)⟩
            have hDD1 := hDD0.trans (hd1.mono hDD0.size)
            refine hK.out _ _ hS1 (fun hHeld1 => ?_)
            clear hK K
            try simp only [Act.put, List.setIfInBounds_toArray, List.set_cons_zero, List.set_cons_succ]
            refine wpAnyH_ready (rs := [3]) (by kernel_rfl) (by simp) ?_
            refine AllReadyH.cons (o := ⟨some 101, _, _, _, _, _⟩) rfl (fun K hK => ?_) AllReadyH.nil
            go_simp
            refine (HDw.out _ hS1.2.2 hDD1).mono ?_
            rintro e d2 ⟨rfl, hd2⟩
            have hS2 : SWs w3.heap.size w5.heap.size #[.int .i64 k0, .int .i64 n0, .string s0, .slice A0 na0 ca0, .slice B0 nb0 cb0] #[.int .i64 k1, .int .i64 n1, .string s1, .slice A1 na1 ca1, .slice B1 nb1 cb1] w d2 := ⟨hS1.1.keep hd2, hS1.2.1.keep hd2, hS1.2.2.trans (hd2.mono hS1.2.2.size)⟩
            have hDD2 := hDD1.trans (hd2.mono hDD1.size)
            refine hK.out _ _ hS2 (fun hHeld2 => ?_)
            clear hK K
            try simp only [Act.put, List.setIfInBounds_toArray, List.set_cons_zero, List.set_cons_succ]
            refine wpAnyH_take (i := 4) (oi := ⟨some 102, _, _, _, _, _⟩) (v := .int .i64 dw) rfl (by kernel_rfl) (by kernel_rfl) (by kernel_rfl) (fun _ _ _ h => h) (Or.inl ⟨by kernel_rfl, ?_⟩) (by assumption) ?_
            · intro w' hSw; obtain ⟨q1, q2, q3⟩ := hSw.1.rules; obtain ⟨p1, p2, p3⟩ := hSw.2.1.rules; go_simp; omega
            try simp only [Act.put, List.setIfInBounds_toArray, List.set_cons_zero, List.set_cons_succ]
            refine wpAnyH_take (i := 5) (oi := ⟨some 103, _, _, _, _, _⟩) (v := .bool false) rfl (by kernel_rfl) (by kernel_rfl) (by kernel_rfl) (fun _ _ _ h => h) (Or.inl ⟨by kernel_rfl, ?_⟩) (by assumption) ?_
            · intro w' hSw; obtain ⟨q1, q2, q3⟩ := hSw.1.rules; obtain ⟨p1, p2, p3⟩ := hSw.2.1.rules; go_simp
            try simp only [Act.put, List.setIfInBounds_toArray, List.set_cons_zero, List.set_cons_succ]
            refine wpAnyH_take (i := 6) (oi := ⟨some 104, _, _, _, _, _⟩) (v := .bool false) rfl (by kernel_rfl) (by kernel_rfl) (by kernel_rfl) (fun _ _ _ h => h) (Or.inl ⟨by kernel_rfl, ?_⟩) (by assumption) ?_
            · intro w' hSw; obtain ⟨q1, q2, q3⟩ := hSw.1.rules; obtain ⟨p1, p2, p3⟩ := hSw.2.1.rules; go_simp
            try simp only [Act.put, List.setIfInBounds_toArray, List.set_cons_zero, List.set_cons_succ]
            refine wpAnyH_take (i := 7) (oi := ⟨some 105, _, _, _, _, _⟩) (v := .agg #[.int .i64 k0, .int .i64 n0, .string s0, .slice A0 na0 ca0, .slice B0 nb0 cb0]) rfl (by kernel_rfl) (by kernel_rfl) (by kernel_rfl) (fun _ _ _ h => h) (Or.inl ⟨by kernel_rfl, ?_⟩) (by assumption) ?_
            · intro w' hSw; obtain ⟨q1, q2, q3⟩ := hSw.1.rules; obtain ⟨p1, p2, p3⟩ := hSw.2.1.rules; go_simp
            try simp only [Act.put, List.setIfInBounds_toArray, List.set_cons_zero, List.set_cons_succ]
            refine wpAnyH_take (i := 9) (oi := ⟨some 107, _, _, _, _, _⟩) (v := .agg #[.int .i64 k1, .int .i64 n1, .string s1, .slice A1 na1 ca1, .slice B1 nb1 cb1]) rfl (by kernel_rfl) (by kernel_rfl) (by kernel_rfl) (fun _ _ _ h => h) (Or.inl ⟨by kernel_rfl, ?_⟩) (by assumption) ?_
            · intro w' hSw; obtain ⟨q1, q2, q3⟩ := hSw.1.rules; obtain ⟨p1, p2, p3⟩ := hSw.2.1.rules; go_simp
            try simp only [Act.put, List.setIfInBounds_toArray, List.set_cons_zero, List.set_cons_succ]
            refine wpAnyH_ready (rs := [8]) (by kernel_rfl) (by simp) ?_
            refine AllReadyH.cons (o := ⟨some 106, _, _, _, _, _⟩) rfl (fun K hK => ?_) AllReadyH.nil
            go_simp
            refine (HNv.out _ hS2.2.2 hDD2).mono ?_
            rintro e d3 ⟨rfl, hd3⟩
            have hS3 : SWs w3.heap.size w5.heap.size #[.int .i64 k0, .int .i64 n0, .string s0, .slice A0 na0 ca0, .slice B0 nb0 cb0] #[.int .i64 k1, .int .i64 n1, .string s1, .slice A1 na1 ca1, .slice B1 nb1 cb1] w d3 := ⟨hS2.1.keep hd3, hS2.2.1.keep hd3, hS2.2.2.trans (hd3.mono hS2.2.2.size)⟩
            have hDD3 := hDD2.trans (hd3.mono hDD2.size)
            refine hK.out _ _ hS3 (fun hHeld3 => ?_)
            clear hK K
            try simp only [Act.put, List.setIfInBounds_toArray, List.set_cons_zero, List.set_cons_succ]
            refine wpAnyH_ready (rs := [10]) (by kernel_rfl) (by simp) ?_
            refine AllReadyH.cons (o := ⟨some 108, _, _, _, _, _⟩) rfl (fun K hK => ?_) AllReadyH.nil
            go_simp
            refine (HNw.out _ hS3.2.2 hDD3).mono ?_
            rintro e d4 ⟨rfl, hd4⟩
            have hS4 : SWs w3.heap.size w5.heap.size #[.int .i64 k0, .int .i64 n0, .string s0, .slice A0 na0 ca0, .slice B0 nb0 cb0] #[.int .i64 k1, .int .i64 n1, .string s1, .slice A1 na1 ca1, .slice B1 nb1 cb1] w d4 := ⟨hS3.1.keep hd4, hS3.2.1.keep hd4, hS3.2.2.trans (hd4.mono hS3.2.2.size)⟩
            have hDD4 := hDD3.trans (hd4.mono hDD3.size)
            refine hK.out _ _ hS4 (fun hHeld4 => ?_)
            clear hK K
            try simp only [Act.put, List.setIfInBounds_toArray, List.set_cons_zero, List.set_cons_succ]
            refine wpAnyH_take (i := 11) (oi := ⟨some 109, _, _, _, _, _⟩) (v := .int .i64 (nv + nw : Nat)) rfl (by kernel_rfl) (by kernel_rfl) (by kernel_rfl) (fun _ _ _ h => h) (Or.inl ⟨by kernel_rfl, ?_⟩) (by assumption) ?_
            · intro w' hSw; obtain ⟨q1, q2, q3⟩ := hSw.1.rules; obtain ⟨p1, p2, p3⟩ := hSw.2.1.rules; go_simp
            try simp only [Act.put, List.setIfInBounds_toArray, List.set_cons_zero, List.set_cons_succ]
            refine wpAnyH_take (i := 12) (oi := ⟨some 110, _, _, _, _, _⟩) (v := .bool true) rfl (by kernel_rfl) (by kernel_rfl) (by kernel_rfl) (fun _ _ _ h => h) (Or.inl ⟨by kernel_rfl, ?_⟩) (by assumption) ?_
            · intro w' hSw; obtain ⟨q1, q2, q3⟩ := hSw.1.rules; obtain ⟨p1, p2, p3⟩ := hSw.2.1.rules; go_simp
            try simp only [Act.put, List.setIfInBounds_toArray, List.set_cons_zero, List.set_cons_succ]
            refine wpAnyH_take (i := 13) (oi := ⟨some 111, _, _, _, _, _⟩) (v := .bool true) rfl (by kernel_rfl) (by kernel_rfl) (by kernel_rfl) (fun _ _ _ h => h) (Or.inl ⟨by kernel_rfl, ?_⟩) (by assumption) ?_
            · intro w' hSw; obtain ⟨q1, q2, q3⟩ := hSw.1.rules; obtain ⟨p1, p2, p3⟩ := hSw.2.1.rules; go_simp
            try simp only [Act.put, List.setIfInBounds_toArray, List.set_cons_zero, List.set_cons_succ]
            refine wpAnyH_done (by kernel_rfl) ?_ _
            go_wp2_with fail
            refine (limit_any _ _ heL).mono ?_
            rintro e u1 ⟨rfl, rfl⟩
            go_wp2_with fail
            refine (limit_any _ _ heO).mono ?_
            rintro e u1 ⟨rfl, rfl⟩
            go_wp2_with fail
            refine (limit_any _ _ heT).mono ?_
            rintro e u1 ⟨rfl, rfl⟩
            go_wp2
            go_ret
            exact ⟨rfl, hS4.2.2⟩
          · have hgi : ¬ (256 : Int) ≤ (nv : Int) + (nw : Int) := by omega
            have hbb : Both jv jw := hboth.2 (by omega)
            obtain ⟨_, hoL, hRL, hNL⟩ := oL.resolve_right (fun h => h.1 hbb)
            obtain ⟨_, hoO, hRO, hNO⟩ := oO.resolve_right (fun h => h.1 hbb)
            obtain ⟨_, hoT, hRT, hNT⟩ := oT.resolve_right (fun h => h.1 ⟨hbb.2.1, hbb.1, by have := hbb.2.2; omega⟩)
            rw [sort_ba] at hoO hRO hNO
            rw [sort_ab] at hoT hRT hNT
            simp only [Prod.mk.injEq] at hoL hoO hoT
            obtain ⟨rfl, rfl, rfl⟩ := hoL
            obtain ⟨rfl, rfl, rfl⟩ := hoO
            obtain ⟨rfl, rfl, rfl⟩ := hoT
            clear hboth
            refine wp_region_held_drew (S := SWs w3.heap.size w5.heap.size #[.int .i64 k0, .int .i64 n0, .string s0, .slice A0 na0 ca0, .slice B0 nb0 cb0] #[.int .i64 k1, .int .i64 n1, .string s1, .slice A1 na1 ca1, .slice B1 nb1 cb1] w) (by kernel_rfl) hS0 (fun hHeld => ?_)
            refine wpAnyH_take (i := 0) (oi := ⟨some 98, _, _, _, _, _⟩) (v := .agg #[.int .i64 k0, .int .i64 n0, .string s0, .slice A0 na0 ca0, .slice B0 nb0 cb0]) rfl (by kernel_rfl) (by kernel_rfl) (by kernel_rfl) (fun _ _ _ h => h) (Or.inl ⟨by kernel_rfl, ?_⟩) (by assumption) ?_
            · intro w' hSw; obtain ⟨q1, q2, q3⟩ := hSw.1.rules; obtain ⟨p1, p2, p3⟩ := hSw.2.1.rules; go_simp
            try simp only [Act.put, List.setIfInBounds_toArray, List.set_cons_zero, List.set_cons_succ]
            refine wpAnyH_take (i := 2) (oi := ⟨some 100, _, _, _, _, _⟩) (v := .agg #[.int .i64 k1, .int .i64 n1, .string s1, .slice A1 na1 ca1, .slice B1 nb1 cb1]) rfl (by kernel_rfl) (by kernel_rfl) (by kernel_rfl) (fun _ _ _ h => h) (Or.inl ⟨by kernel_rfl, ?_⟩) (by assumption) ?_
            · intro w' hSw; obtain ⟨q1, q2, q3⟩ := hSw.1.rules; obtain ⟨p1, p2, p3⟩ := hSw.2.1.rules; go_simp
            try simp only [Act.put, List.setIfInBounds_toArray, List.set_cons_zero, List.set_cons_succ]
            refine wpAnyH_ready (rs := [1]) (by kernel_rfl) (by simp) ?_
            refine AllReadyH.cons (o := ⟨some 99, _, _, _, _, _⟩) rfl (fun K hK => ?_) AllReadyH.nil
            go_simp
            refine (HDv.out _ hS0.2.2 hDD0).mono ?_
            rintro e d1 ⟨rfl, hd1⟩
            have hS1 : SWs w3.heap.size w5.heap.size #[.int .i64 k0, .int .i64 n0, .string s0, .slice A0 na0 ca0, .slice B0 nb0 cb0] #[.int .i64 k1, .int .i64 n1, .string s1, .slice A1 na1 ca1, .slice B1 nb1 cb1] w d1 := ⟨hS0.1.keep hd1, hS0.2.1.keep hd1, hS0.2.2.trans (hd1.mono hS0.2.2.size)⟩
            have hDD1 := hDD0.trans (hd1.mono hDD0.size)
            refine hK.out _ _ hS1 (fun hHeld1 => ?_)
            clear hK K
            try simp only [Act.put, List.setIfInBounds_toArray, List.set_cons_zero, List.set_cons_succ]
            refine wpAnyH_ready (rs := [3]) (by kernel_rfl) (by simp) ?_
            refine AllReadyH.cons (o := ⟨some 101, _, _, _, _, _⟩) rfl (fun K hK => ?_) AllReadyH.nil
            go_simp
            refine (HDw.out _ hS1.2.2 hDD1).mono ?_
            rintro e d2 ⟨rfl, hd2⟩
            have hS2 : SWs w3.heap.size w5.heap.size #[.int .i64 k0, .int .i64 n0, .string s0, .slice A0 na0 ca0, .slice B0 nb0 cb0] #[.int .i64 k1, .int .i64 n1, .string s1, .slice A1 na1 ca1, .slice B1 nb1 cb1] w d2 := ⟨hS1.1.keep hd2, hS1.2.1.keep hd2, hS1.2.2.trans (hd2.mono hS1.2.2.size)⟩
            have hDD2 := hDD1.trans (hd2.mono hDD1.size)
            refine hK.out _ _ hS2 (fun hHeld2 => ?_)
            clear hK K
            try simp only [Act.put, List.setIfInBounds_toArray, List.set_cons_zero, List.set_cons_succ]
            refine wpAnyH_take (i := 4) (oi := ⟨some 102, _, _, _, _, _⟩) (v := .int .i64 dw) rfl (by kernel_rfl) (by kernel_rfl) (by kernel_rfl) (fun _ _ _ h => h) (Or.inl ⟨by kernel_rfl, ?_⟩) (by assumption) ?_
            · intro w' hSw; obtain ⟨q1, q2, q3⟩ := hSw.1.rules; obtain ⟨p1, p2, p3⟩ := hSw.2.1.rules; go_simp; omega
            try simp only [Act.put, List.setIfInBounds_toArray, List.set_cons_zero, List.set_cons_succ]
            refine wpAnyH_take (i := 5) (oi := ⟨some 103, _, _, _, _, _⟩) (v := .bool false) rfl (by kernel_rfl) (by kernel_rfl) (by kernel_rfl) (fun _ _ _ h => h) (Or.inl ⟨by kernel_rfl, ?_⟩) (by assumption) ?_
            · intro w' hSw; obtain ⟨q1, q2, q3⟩ := hSw.1.rules; obtain ⟨p1, p2, p3⟩ := hSw.2.1.rules; go_simp
            try simp only [Act.put, List.setIfInBounds_toArray, List.set_cons_zero, List.set_cons_succ]
            refine wpAnyH_take (i := 6) (oi := ⟨some 104, _, _, _, _, _⟩) (v := .bool false) rfl (by kernel_rfl) (by kernel_rfl) (by kernel_rfl) (fun _ _ _ h => h) (Or.inl ⟨by kernel_rfl, ?_⟩) (by assumption) ?_
            · intro w' hSw; obtain ⟨q1, q2, q3⟩ := hSw.1.rules; obtain ⟨p1, p2, p3⟩ := hSw.2.1.rules; go_simp
            try simp only [Act.put, List.setIfInBounds_toArray, List.set_cons_zero, List.set_cons_succ]
            refine wpAnyH_take (i := 7) (oi := ⟨some 105, _, _, _, _, _⟩) (v := .agg #[.int .i64 k0, .int .i64 n0, .string s0, .slice A0 na0 ca0, .slice B0 nb0 cb0]) rfl (by kernel_rfl) (by kernel_rfl) (by kernel_rfl) (fun _ _ _ h => h) (Or.inl ⟨by kernel_rfl, ?_⟩) (by assumption) ?_
            · intro w' hSw; obtain ⟨q1, q2, q3⟩ := hSw.1.rules; obtain ⟨p1, p2, p3⟩ := hSw.2.1.rules; go_simp
            try simp only [Act.put, List.setIfInBounds_toArray, List.set_cons_zero, List.set_cons_succ]
            refine wpAnyH_take (i := 9) (oi := ⟨some 107, _, _, _, _, _⟩) (v := .agg #[.int .i64 k1, .int .i64 n1, .string s1, .slice A1 na1 ca1, .slice B1 nb1 cb1]) rfl (by kernel_rfl) (by kernel_rfl) (by kernel_rfl) (fun _ _ _ h => h) (Or.inl ⟨by kernel_rfl, ?_⟩) (by assumption) ?_
            · intro w' hSw; obtain ⟨q1, q2, q3⟩ := hSw.1.rules; obtain ⟨p1, p2, p3⟩ := hSw.2.1.rules; go_simp
            try simp only [Act.put, List.setIfInBounds_toArray, List.set_cons_zero, List.set_cons_succ]
            refine wpAnyH_ready (rs := [8]) (by kernel_rfl) (by simp) ?_
            refine AllReadyH.cons (o := ⟨some 106, _, _, _, _, _⟩) rfl (fun K hK => ?_) AllReadyH.nil
            go_simp
            refine (HNv.out _ hS2.2.2 hDD2).mono ?_
            rintro e d3 ⟨rfl, hd3⟩
            have hS3 : SWs w3.heap.size w5.heap.size #[.int .i64 k0, .int .i64 n0, .string s0, .slice A0 na0 ca0, .slice B0 nb0 cb0] #[.int .i64 k1, .int .i64 n1, .string s1, .slice A1 na1 ca1, .slice B1 nb1 cb1] w d3 := ⟨hS2.1.keep hd3, hS2.2.1.keep hd3, hS2.2.2.trans (hd3.mono hS2.2.2.size)⟩
            have hDD3 := hDD2.trans (hd3.mono hDD2.size)
            refine hK.out _ _ hS3 (fun hHeld3 => ?_)
            clear hK K
            try simp only [Act.put, List.setIfInBounds_toArray, List.set_cons_zero, List.set_cons_succ]
            refine wpAnyH_ready (rs := [10]) (by kernel_rfl) (by simp) ?_
            refine AllReadyH.cons (o := ⟨some 108, _, _, _, _, _⟩) rfl (fun K hK => ?_) AllReadyH.nil
            go_simp
            refine (HNw.out _ hS3.2.2 hDD3).mono ?_
            rintro e d4 ⟨rfl, hd4⟩
            have hS4 : SWs w3.heap.size w5.heap.size #[.int .i64 k0, .int .i64 n0, .string s0, .slice A0 na0 ca0, .slice B0 nb0 cb0] #[.int .i64 k1, .int .i64 n1, .string s1, .slice A1 na1 ca1, .slice B1 nb1 cb1] w d4 := ⟨hS3.1.keep hd4, hS3.2.1.keep hd4, hS3.2.2.trans (hd4.mono hS3.2.2.size)⟩
            have hDD4 := hDD3.trans (hd4.mono hDD3.size)
            refine hK.out _ _ hS4 (fun hHeld4 => ?_)
            clear hK K
            try simp only [Act.put, List.setIfInBounds_toArray, List.set_cons_zero, List.set_cons_succ]
            refine wpAnyH_take (i := 11) (oi := ⟨some 109, _, _, _, _, _⟩) (v := .int .i64 (nv + nw : Nat)) rfl (by kernel_rfl) (by kernel_rfl) (by kernel_rfl) (fun _ _ _ h => h) (Or.inl ⟨by kernel_rfl, ?_⟩) (by assumption) ?_
            · intro w' hSw; obtain ⟨q1, q2, q3⟩ := hSw.1.rules; obtain ⟨p1, p2, p3⟩ := hSw.2.1.rules; go_simp
            try simp only [Act.put, List.setIfInBounds_toArray, List.set_cons_zero, List.set_cons_succ]
            refine wpAnyH_take (i := 12) (oi := ⟨some 110, _, _, _, _, _⟩) (v := .bool false) rfl (by kernel_rfl) (by kernel_rfl) (by kernel_rfl) (fun _ _ _ h => h) (Or.inl ⟨by kernel_rfl, ?_⟩) (by assumption) ?_
            · intro w' hSw; obtain ⟨q1, q2, q3⟩ := hSw.1.rules; obtain ⟨p1, p2, p3⟩ := hSw.2.1.rules; go_simp
            try simp only [Act.put, List.setIfInBounds_toArray, List.set_cons_zero, List.set_cons_succ]
            refine wpAnyH_take (i := 13) (oi := ⟨some 111, _, _, _, _, _⟩) (v := .bool false) rfl (by kernel_rfl) (by kernel_rfl) (by kernel_rfl) (fun _ _ _ h => h) (Or.inl ⟨by kernel_rfl, ?_⟩) (by assumption) ?_
            · intro w' hSw; obtain ⟨q1, q2, q3⟩ := hSw.1.rules; obtain ⟨p1, p2, p3⟩ := hSw.2.1.rules; go_simp
            try simp only [Act.put, List.setIfInBounds_toArray, List.set_cons_zero, List.set_cons_succ]
            refine wpAnyH_done (by kernel_rfl) ?_ _
            have hbd := hDD4
            have HBx := Lib.hid hS4.2.2
            have HKx := Lib.hid (And.intro (HKL.out.keep hbd) (And.intro (HKO.out.keep hbd) (And.intro (HKT.out.keep hbd) (And.intro (HKv.out.keep hbd) (HKw.out.keep hbd)))))
            have HVx := Lib.hid (And.intro (HVL.out.bel hbd) (And.intro (HVO.out.bel hbd) (And.intro (HVT.out.bel hbd) (And.intro (HVv.out.bel hbd) (HVw.out.bel hbd)))))
            obtain ⟨D, hD⟩ : ∃ D, d4 = D := ⟨_, rfl⟩
            rw [hD] at HBx HKx HVx ⊢
            clear hbd hD
            obtain ⟨c1, f1, l1⟩ := HKx.out.1.rules
            obtain ⟨c2, f2, l2⟩ := HKx.out.2.2.2.1.rules
            obtain ⟨c3, f3, l3⟩ := HKx.out.2.2.2.2.rules
            have hS1' := same_list HVx.out.2.2.2.1 HVx.out.2.2.2.2
            have hbz := (Below.refl D.heap.size D).alloc (Nat.le_refl _) (.cells #[.int .i64 k0, .int .i64 n0, .string s0, .slice A0 na0 ca0, .slice B0 nb0 cb0, .int .i64 k1, .int .i64 n1, .string s1, .slice A1 na1 ca1, .slice B1 nb1 cb1] 40)
            have HBz := Lib.hid (HBx.out.trans (hbz.mono HBx.out.size))
            have HSM := Lib.hid (vSame_any _ _ _ _ _ _ (HG.out.keep HBz.out) (HVx.out.1.bel hbz) hS1' hRL hNL)
            have HKz := Lib.hid (And.intro (HKx.out.2.1.keep hbz) (And.intro (HKx.out.2.2.1.keep hbz) (And.intro (HKx.out.2.2.2.1.keep hbz) (HKx.out.2.2.2.2.keep hbz))))
            have HVz := Lib.hid (And.intro (HVx.out.2.1.bel hbz) (And.intro (HVx.out.2.2.1.bel hbz) (And.intro (HVx.out.2.2.2.1.bel hbz) (HVx.out.2.2.2.2.bel hbz))))
            clear hbz hS1'
            go_wp2_with fail
            refine HSM.out.mono ?_
            rintro e E ⟨rfl, hbE⟩
            replace HKz := Lib.hid (And.intro (HKz.out.1.keep hbE) (And.intro (HKz.out.2.1.keep hbE) (And.intro (HKz.out.2.2.1.keep hbE) (HKz.out.2.2.2.keep hbE))))
            replace HVz := Lib.hid (And.intro (HVz.out.1.bel hbE) (And.intro (HVz.out.2.1.bel hbE) (And.intro (HVz.out.2.2.1.bel hbE) (HVz.out.2.2.2.bel hbE))))
            have HBE := Lib.hid (HBz.out.trans (hbE.mono HBz.out.size))
            clear c1 f1 l1 c2 f2 l2 c3 f3 l3 hbE HSM HKx HVx
            obtain ⟨c1, f1, l1⟩ := HKz.out.1.rules
            obtain ⟨c2, f2, l2⟩ := HKz.out.2.1.rules
            have HSM := Lib.hid (vSame_any _ _ _ _ _ E (HG.out.keep HBE.out) HVz.out.1 HVz.out.2.1 hRO hNO)
            go_wp2_with fail
            refine HSM.out.mono ?_
            rintro e G ⟨rfl, hbG⟩
            replace HKz := Lib.hid (And.intro (HKz.out.1.keep hbG) (And.intro (HKz.out.2.1.keep hbG) (And.intro (HKz.out.2.2.1.keep hbG) (HKz.out.2.2.2.keep hbG))))
            replace HVz := Lib.hid (And.intro (HVz.out.1.bel hbG) (And.intro (HVz.out.2.1.bel hbG) (And.intro (HVz.out.2.2.1.bel hbG) (HVz.out.2.2.2.bel hbG))))
            have HBG := Lib.hid (HBE.out.trans (hbG.mono HBE.out.size))
            clear c1 f1 l1 c2 f2 l2 hbG HSM HBE
            obtain ⟨c1, f1, l1⟩ := HKz.out.1.rules
            obtain ⟨c2, f2, l2⟩ := HKz.out.2.2.1.rules
            obtain ⟨c3, f3, l3⟩ := HKz.out.2.2.2.rules
            have hS2' := same_obj HVz.out.2.2.2 HVz.out.2.2.1
            have hbz := ((Below.refl G.heap.size G).alloc (Nat.le_refl _) (.cells #[.string ⟨#[97]⟩, .string ⟨#[98]⟩] 9)).alloc (by simp) (.cells #[.int .i64 k1, .int .i64 n1, .string s1, .slice A1 na1 ca1, .slice B1 nb1 cb1, .int .i64 k0, .int .i64 n0, .string s0, .slice A0 na0 ca0, .slice B0 nb0 cb0] 40)
            have HBy := Lib.hid (HBG.out.trans (hbz.mono HBG.out.size))
            have HSM := Lib.hid (vSame_any _ _ _ _ _ _ (HG.out.keep HBy.out) (HVz.out.1.bel hbz) hS2' hRO hNO)
            clear hbz hS2'
            go_wp2_with fail
            refine HSM.out.mono ?_
            rintro e H ⟨rfl, hbH⟩
            have HBH := Lib.hid (HBy.out.trans (hbH.mono HBy.out.size))
            clear hbH
            go_wp2
            go_ret
            exact ⟨rfl, HBH.out⟩
      · by_cases h8 : dv = 8
        · have h8b : ((dv : Int) == 8) = true := by simp; omega
          have hnb : ¬ Both jv jw := fun h => by have := hboth.1 h; omega
          rcases oL with ⟨hb, _⟩ | ⟨_, pL, xL, hoL, heL⟩
          · exact absurd hb hnb
          rcases oO with ⟨hb, _⟩ | ⟨_, pO, xO, hoO, heO⟩
          · exact absurd hb hnb
          rcases oT with ⟨hb, _⟩ | ⟨_, pT, xT, hoT, heT⟩
          · exact absurd hb (fun h => hnb ⟨h.2.1, h.1, by have := h.2.2; omega⟩)
          simp only [Prod.mk.injEq] at hoL hoO hoT
          obtain ⟨_, _, rfl⟩ := hoL
          obtain ⟨_, _, rfl⟩ := hoO
          obtain ⟨_, _, rfl⟩ := hoT
          clear hboth hnb
          refine wp_region_held_drew (S := SWs w3.heap.size w5.heap.size #[.int .i64 k0, .int .i64 n0, .string s0, .slice A0 na0 ca0, .slice B0 nb0 cb0] #[.int .i64 k1, .int .i64 n1, .string s1, .slice A1 na1 ca1, .slice B1 nb1 cb1] w) (by kernel_rfl) hS0 (fun hHeld => ?_)
          refine wpAnyH_take (i := 0) (oi := ⟨some 98, _, _, _, _, _⟩) (v := .agg #[.int .i64 k0, .int .i64 n0, .string s0, .slice A0 na0 ca0, .slice B0 nb0 cb0]) rfl (by kernel_rfl) (by kernel_rfl) (by kernel_rfl) (fun _ _ _ h => h) (Or.inl ⟨by kernel_rfl, ?_⟩) (by assumption) ?_
          · intro w' hSw; obtain ⟨q1, q2, q3⟩ := hSw.1.rules; obtain ⟨p1, p2, p3⟩ := hSw.2.1.rules; go_simp
          try simp only [Act.put, List.setIfInBounds_toArray, List.set_cons_zero, List.set_cons_succ]
          refine wpAnyH_take (i := 2) (oi := ⟨some 100, _, _, _, _, _⟩) (v := .agg #[.int .i64 k1, .int .i64 n1, .string s1, .slice A1 na1 ca1, .slice B1 nb1 cb1]) rfl (by kernel_rfl) (by kernel_rfl) (by kernel_rfl) (fun _ _ _ h => h) (Or.inl ⟨by kernel_rfl, ?_⟩) (by assumption) ?_
          · intro w' hSw; obtain ⟨q1, q2, q3⟩ := hSw.1.rules; obtain ⟨p1, p2, p3⟩ := hSw.2.1.rules; go_simp
          try simp only [Act.put, List.setIfInBounds_toArray, List.set_cons_zero, List.set_cons_succ]
          refine wpAnyH_ready (rs := [1]) (by kernel_rfl) (by simp) ?_
          refine AllReadyH.cons (o := ⟨some 99, _, _, _, _, _⟩) rfl (fun K hK => ?_) AllReadyH.nil
          go_simp
          refine (HDv.out _ hS0.2.2 hDD0).mono ?_
          rintro e d1 ⟨rfl, hd1⟩
          have hS1 : SWs w3.heap.size w5.heap.size #[.int .i64 k0, .int .i64 n0, .string s0, .slice A0 na0 ca0, .slice B0 nb0 cb0] #[.int .i64 k1, .int .i64 n1, .string s1, .slice A1 na1 ca1, .slice B1 nb1 cb1] w d1 := ⟨hS0.1.keep hd1, hS0.2.1.keep hd1, hS0.2.2.trans (hd1.mono hS0.2.2.size)⟩
          have hDD1 := hDD0.trans (hd1.mono hDD0.size)
          refine hK.out _ _ hS1 (fun hHeld1 => ?_)
          clear hK K
          try simp only [Act.put, List.setIfInBounds_toArray, List.set_cons_zero, List.set_cons_succ]
          refine wpAnyH_ready (rs := [3]) (by kernel_rfl) (by simp) ?_
          refine AllReadyH.cons (o := ⟨some 101, _, _, _, _, _⟩) rfl (fun K hK => ?_) AllReadyH.nil
          go_simp
          refine (HDw.out _ hS1.2.2 hDD1).mono ?_
          rintro e d2 ⟨rfl, hd2⟩
          have hS2 : SWs w3.heap.size w5.heap.size #[.int .i64 k0, .int .i64 n0, .string s0, .slice A0 na0 ca0, .slice B0 nb0 cb0] #[.int .i64 k1, .int .i64 n1, .string s1, .slice A1 na1 ca1, .slice B1 nb1 cb1] w d2 := ⟨hS1.1.keep hd2, hS1.2.1.keep hd2, hS1.2.2.trans (hd2.mono hS1.2.2.size)⟩
          have hDD2 := hDD1.trans (hd2.mono hDD1.size)
          refine hK.out _ _ hS2 (fun hHeld2 => ?_)
          clear hK K
          try simp only [Act.put, List.setIfInBounds_toArray, List.set_cons_zero, List.set_cons_succ]
          refine wpAnyH_take (i := 4) (oi := ⟨some 102, _, _, _, _, _⟩) (v := .int .i64 dv) rfl (by kernel_rfl) (by kernel_rfl) (by kernel_rfl) (fun _ _ _ h => h) (Or.inl ⟨by kernel_rfl, ?_⟩) (by assumption) ?_
          · intro w' hSw; obtain ⟨q1, q2, q3⟩ := hSw.1.rules; obtain ⟨p1, p2, p3⟩ := hSw.2.1.rules; go_simp; omega
          try simp only [Act.put, List.setIfInBounds_toArray, List.set_cons_zero, List.set_cons_succ]
          refine wpAnyH_take (i := 5) (oi := ⟨some 103, _, _, _, _, _⟩) (v := .bool true) rfl (by kernel_rfl) (by kernel_rfl) (by kernel_rfl) (fun _ _ _ h => h) (Or.inl ⟨by kernel_rfl, ?_⟩) (by assumption) ?_
          · intro w' hSw; obtain ⟨q1, q2, q3⟩ := hSw.1.rules; obtain ⟨p1, p2, p3⟩ := hSw.2.1.rules; go_simp
          try simp only [Act.put, List.setIfInBounds_toArray, List.set_cons_zero, List.set_cons_succ]
          refine wpAnyH_take (i := 6) (oi := ⟨some 104, _, _, _, _, _⟩) (v := .bool true) rfl (by kernel_rfl) (by kernel_rfl) (by kernel_rfl) (fun _ _ _ h => h) (Or.inl ⟨by kernel_rfl, ?_⟩) (by assumption) ?_
          · intro w' hSw; obtain ⟨q1, q2, q3⟩ := hSw.1.rules; obtain ⟨p1, p2, p3⟩ := hSw.2.1.rules; go_simp
          try simp only [Act.put, List.setIfInBounds_toArray, List.set_cons_zero, List.set_cons_succ]
          refine wpAnyH_take (i := 7) (oi := ⟨some 105, _, _, _, _, _⟩) (v := undef) rfl (by kernel_rfl) (by kernel_rfl) (by kernel_rfl) (fun _ _ _ h => h) (Or.inr ⟨by kernel_rfl, rfl⟩) (by assumption) ?_
          try simp only [Act.put, List.setIfInBounds_toArray, List.set_cons_zero, List.set_cons_succ]
          refine wpAnyH_take (i := 8) (oi := ⟨some 106, _, _, _, _, _⟩) (v := undef) rfl (by kernel_rfl) (by kernel_rfl) (by kernel_rfl) (fun _ _ _ h => h) (Or.inr ⟨by kernel_rfl, rfl⟩) (by assumption) ?_
          try simp only [Act.put, List.setIfInBounds_toArray, List.set_cons_zero, List.set_cons_succ]
          refine wpAnyH_take (i := 9) (oi := ⟨some 107, _, _, _, _, _⟩) (v := undef) rfl (by kernel_rfl) (by kernel_rfl) (by kernel_rfl) (fun _ _ _ h => h) (Or.inr ⟨by kernel_rfl, rfl⟩) (by assumption) ?_
          try simp only [Act.put, List.setIfInBounds_toArray, List.set_cons_zero, List.set_cons_succ]
          refine wpAnyH_take (i := 10) (oi := ⟨some 108, _, _, _, _, _⟩) (v := undef) rfl (by kernel_rfl) (by kernel_rfl) (by kernel_rfl) (fun _ _ _ h => h) (Or.inr ⟨by kernel_rfl, rfl⟩) (by assumption) ?_
          try simp only [Act.put, List.setIfInBounds_toArray, List.set_cons_zero, List.set_cons_succ]
          refine wpAnyH_take (i := 11) (oi := ⟨some 109, _, _, _, _, _⟩) (v := undef) rfl (by kernel_rfl) (by kernel_rfl) (by kernel_rfl) (fun _ _ _ h => h) (Or.inr ⟨by kernel_rfl, rfl⟩) (by assumption) ?_
          try simp only [Act.put, List.setIfInBounds_toArray, List.set_cons_zero, List.set_cons_succ]
          refine wpAnyH_take (i := 12) (oi := ⟨some 110, _, _, _, _, _⟩) (v := undef) rfl (by kernel_rfl) (by kernel_rfl) (by kernel_rfl) (fun _ _ _ h => h) (Or.inr ⟨by kernel_rfl, rfl⟩) (by assumption) ?_
          try simp only [Act.put, List.setIfInBounds_toArray, List.set_cons_zero, List.set_cons_succ]
          refine wpAnyH_take (i := 13) (oi := ⟨some 111, _, _, _, _, _⟩) (v := .bool true) rfl (by kernel_rfl) (by kernel_rfl) (by kernel_rfl) (fun _ _ _ h => h) (Or.inl ⟨by kernel_rfl, ?_⟩) (by assumption) ?_
          · intro w' hSw; obtain ⟨q1, q2, q3⟩ := hSw.1.rules; obtain ⟨p1, p2, p3⟩ := hSw.2.1.rules; go_simp
          try simp only [Act.put, List.setIfInBounds_toArray, List.set_cons_zero, List.set_cons_succ]
          refine wpAnyH_done (by kernel_rfl) ?_ _
          go_wp2_with fail
          refine (limit_any _ _ heL).mono ?_
          rintro e u1 ⟨rfl, rfl⟩
          go_wp2_with fail
          refine (limit_any _ _ heO).mono ?_
          rintro e u1 ⟨rfl, rfl⟩
          go_wp2_with fail
          refine (limit_any _ _ heT).mono ?_
          rintro e u1 ⟨rfl, rfl⟩
          go_wp2
          go_ret
          exact ⟨rfl, hS2.2.2⟩
        · have h8b : ((dv : Int) == 8) = false := by simp; omega
          by_cases hge : 256 ≤ nv + nw
          · have hgi : (256 : Int) ≤ (nv : Int) + (nw : Int) := by omega
            have hnb : ¬ Both jv jw := fun h => by have := hboth.1 h; omega
            rcases oL with ⟨hb, _⟩ | ⟨_, pL, xL, hoL, heL⟩
            · exact absurd hb hnb
            rcases oO with ⟨hb, _⟩ | ⟨_, pO, xO, hoO, heO⟩
            · exact absurd hb hnb
            rcases oT with ⟨hb, _⟩ | ⟨_, pT, xT, hoT, heT⟩
            · exact absurd hb (fun h => hnb ⟨h.2.1, h.1, by have := h.2.2; omega⟩)
            simp only [Prod.mk.injEq] at hoL hoO hoT
            obtain ⟨_, _, rfl⟩ := hoL
            obtain ⟨_, _, rfl⟩ := hoO
            obtain ⟨_, _, rfl⟩ := hoT
            clear hboth hnb
            refine wp_region_held_drew (S := SWs w3.heap.size w5.heap.size #[.int .i64 k0, .int .i64 n0, .string s0, .slice A0 na0 ca0, .slice B0 nb0 cb0] #[.int .i64 k1, .int .i64 n1, .string s1, .slice A1 na1 ca1, .slice B1 nb1 cb1] w) (by kernel_rfl) hS0 (fun hHeld => ?_)
            refine wpAnyH_take (i := 0) (oi := ⟨some 98, _, _, _, _, _⟩) (v := .agg #[.int .i64 k0, .int .i64 n0, .string s0, .slice A0 na0 ca0, .slice B0 nb0 cb0]) rfl (by kernel_rfl) (by kernel_rfl) (by kernel_rfl) (fun _ _ _ h => h) (Or.inl ⟨by kernel_rfl, ?_⟩) (by assumption) ?_
            · intro w' hSw; obtain ⟨q1, q2, q3⟩ := hSw.1.rules; obtain ⟨p1, p2, p3⟩ := hSw.2.1.rules; go_simp
            try simp only [Act.put, List.setIfInBounds_toArray, List.set_cons_zero, List.set_cons_succ]
            refine wpAnyH_take (i := 2) (oi := ⟨some 100, _, _, _, _, _⟩) (v := .agg #[.int .i64 k1, .int .i64 n1, .string s1, .slice A1 na1 ca1, .slice B1 nb1 cb1]) rfl (by kernel_rfl) (by kernel_rfl) (by kernel_rfl) (fun _ _ _ h => h) (Or.inl ⟨by kernel_rfl, ?_⟩) (by assumption) ?_
            · intro w' hSw; obtain ⟨q1, q2, q3⟩ := hSw.1.rules; obtain ⟨p1, p2, p3⟩ := hSw.2.1.rules; go_simp
            try simp only [Act.put, List.setIfInBounds_toArray, List.set_cons_zero, List.set_cons_succ]
            refine wpAnyH_ready (rs := [1]) (by kernel_rfl) (by simp) ?_
            refine AllReadyH.cons (o := ⟨some 99, _, _, _, _, _⟩) rfl (fun K hK => ?_) AllReadyH.nil
            go_simp
            refine (HDv.out _ hS0.2.2 hDD0).mono ?_
            rintro e d1 ⟨rfl, hd1⟩
            have hS1 : SWs w3.heap.size w5.heap.size #[.int .i64 k0, .int .i64 n0, .string s0, .slice A0 na0 ca0, .slice B0 nb0 cb0] #[.int .i64 k1, .int .i64 n1, .string s1, .slice A1 na1 ca1, .slice B1 nb1 cb1] w d1 := ⟨hS0.1.keep hd1, hS0.2.1.keep hd1, hS0.2.2.trans (hd1.mono hS0.2.2.size)⟩
            have hDD1 := hDD0.trans (hd1.mono hDD0.size)
            refine hK.out _ _ hS1 (fun hHeld1 => ?_)
            clear hK K
            try simp only [Act.put, List.setIfInBounds_toArray, List.set_cons_zero, List.set_cons_succ]
            refine wpAnyH_ready (rs := [3]) (by kernel_rfl) (by simp) ?_
            refine AllReadyH.cons (o := ⟨some 101, _, _, _, _, _⟩) rfl (fun K hK => ?_) AllReadyH.nil
            go_simp
            refine (HDw.out _ hS1.2.2 hDD1).mono ?_
            rintro e d2 ⟨rfl, hd2⟩
            have hS2 : SWs w3.heap.size w5.heap.size #[.int .i64 k0, .int .i64 n0, .string s0, .slice A0 na0 ca0, .slice B0 nb0 cb0] #[.int .i64 k1, .int .i64 n1, .string s1, .slice A1 na1 ca1, .slice B1 nb1 cb1] w d2 := ⟨hS1.1.keep hd2, hS1.2.1.keep hd2, hS1.2.2.trans (hd2.mono hS1.2.2.size)⟩
            have hDD2 := hDD1.trans (hd2.mono hDD1.size)
            refine hK.out _ _ hS2 (fun hHeld2 => ?_)
            clear hK K
            try simp only [Act.put, List.setIfInBounds_toArray, List.set_cons_zero, List.set_cons_succ]
            refine wpAnyH_take (i := 4) (oi := ⟨some 102, _, _, _, _, _⟩) (v := .int .i64 dv) rfl (by kernel_rfl) (by kernel_rfl) (by kernel_rfl) (fun _ _ _ h => h) (Or.inl ⟨by kernel_rfl, ?_⟩) (by assumption) ?_
            · intro w' hSw; obtain ⟨q1, q2, q3⟩ := hSw.1.rules; obtain ⟨p1, p2, p3⟩ := hSw.2.1.rules; go_simp; omega
            try simp only [Act.put, List.setIfInBounds_toArray, List.set_cons_zero, List.set_cons_succ]
            refine wpAnyH_take (i := 5) (oi := ⟨some 103, _, _, _, _, _⟩) (v := .bool false) rfl (by kernel_rfl) (by kernel_rfl) (by kernel_rfl) (fun _ _ _ h => h) (Or.inl ⟨by kernel_rfl, ?_⟩) (by assumption) ?_
            · intro w' hSw; obtain ⟨q1, q2, q3⟩ := hSw.1.rules; obtain ⟨p1, p2, p3⟩ := hSw.2.1.rules; go_simp
            try simp only [Act.put, List.setIfInBounds_toArray, List.set_cons_zero, List.set_cons_succ]
            refine wpAnyH_take (i := 6) (oi := ⟨some 104, _, _, _, _, _⟩) (v := .bool false) rfl (by kernel_rfl) (by kernel_rfl) (by kernel_rfl) (fun _ _ _ h => h) (Or.inl ⟨by kernel_rfl, ?_⟩) (by assumption) ?_
            · intro w' hSw; obtain ⟨q1, q2, q3⟩ := hSw.1.rules; obtain ⟨p1, p2, p3⟩ := hSw.2.1.rules; go_simp
            try simp only [Act.put, List.setIfInBounds_toArray, List.set_cons_zero, List.set_cons_succ]
            refine wpAnyH_take (i := 7) (oi := ⟨some 105, _, _, _, _, _⟩) (v := .agg #[.int .i64 k0, .int .i64 n0, .string s0, .slice A0 na0 ca0, .slice B0 nb0 cb0]) rfl (by kernel_rfl) (by kernel_rfl) (by kernel_rfl) (fun _ _ _ h => h) (Or.inl ⟨by kernel_rfl, ?_⟩) (by assumption) ?_
            · intro w' hSw; obtain ⟨q1, q2, q3⟩ := hSw.1.rules; obtain ⟨p1, p2, p3⟩ := hSw.2.1.rules; go_simp
            try simp only [Act.put, List.setIfInBounds_toArray, List.set_cons_zero, List.set_cons_succ]
            refine wpAnyH_take (i := 9) (oi := ⟨some 107, _, _, _, _, _⟩) (v := .agg #[.int .i64 k1, .int .i64 n1, .string s1, .slice A1 na1 ca1, .slice B1 nb1 cb1]) rfl (by kernel_rfl) (by kernel_rfl) (by kernel_rfl) (fun _ _ _ h => h) (Or.inl ⟨by kernel_rfl, ?_⟩) (by assumption) ?_
            · intro w' hSw; obtain ⟨q1, q2, q3⟩ := hSw.1.rules; obtain ⟨p1, p2, p3⟩ := hSw.2.1.rules; go_simp
            try simp only [Act.put, List.setIfInBounds_toArray, List.set_cons_zero, List.set_cons_succ]
            refine wpAnyH_ready (rs := [8]) (by kernel_rfl) (by simp) ?_
            refine AllReadyH.cons (o := ⟨some 106, _, _, _, _, _⟩) rfl (fun K hK => ?_) AllReadyH.nil
            go_simp
            refine (HNv.out _ hS2.2.2 hDD2).mono ?_
            rintro e d3 ⟨rfl, hd3⟩
            have hS3 : SWs w3.heap.size w5.heap.size #[.int .i64 k0, .int .i64 n0, .string s0, .slice A0 na0 ca0, .slice B0 nb0 cb0] #[.int .i64 k1, .int .i64 n1, .string s1, .slice A1 na1 ca1, .slice B1 nb1 cb1] w d3 := ⟨hS2.1.keep hd3, hS2.2.1.keep hd3, hS2.2.2.trans (hd3.mono hS2.2.2.size)⟩
            have hDD3 := hDD2.trans (hd3.mono hDD2.size)
            refine hK.out _ _ hS3 (fun hHeld3 => ?_)
            clear hK K
            try simp only [Act.put, List.setIfInBounds_toArray, List.set_cons_zero, List.set_cons_succ]
            refine wpAnyH_ready (rs := [10]) (by kernel_rfl) (by simp) ?_
            refine AllReadyH.cons (o := ⟨some 108, _, _, _, _, _⟩) rfl (fun K hK => ?_) AllReadyH.nil
            go_simp
            refine (HNw.out _ hS3.2.2 hDD3).mono ?_
            rintro e d4 ⟨rfl, hd4⟩
            have hS4 : SWs w3.heap.size w5.heap.size #[.int .i64 k0, .int .i64 n0, .string s0, .slice A0 na0 ca0, .slice B0 nb0 cb0] #[.int .i64 k1, .int .i64 n1, .string s1, .slice A1 na1 ca1, .slice B1 nb1 cb1] w d4 := ⟨hS3.1.keep hd4, hS3.2.1.keep hd4, hS3.2.2.trans (hd4.mono hS3.2.2.size)⟩
            have hDD4 := hDD3.trans (hd4.mono hDD3.size)
            refine hK.out _ _ hS4 (fun hHeld4 => ?_)
            clear hK K
            try simp only [Act.put, List.setIfInBounds_toArray, List.set_cons_zero, List.set_cons_succ]
            refine wpAnyH_take (i := 11) (oi := ⟨some 109, _, _, _, _, _⟩) (v := .int .i64 (nv + nw : Nat)) rfl (by kernel_rfl) (by kernel_rfl) (by kernel_rfl) (fun _ _ _ h => h) (Or.inl ⟨by kernel_rfl, ?_⟩) (by assumption) ?_
            · intro w' hSw; obtain ⟨q1, q2, q3⟩ := hSw.1.rules; obtain ⟨p1, p2, p3⟩ := hSw.2.1.rules; go_simp
            try simp only [Act.put, List.setIfInBounds_toArray, List.set_cons_zero, List.set_cons_succ]
            refine wpAnyH_take (i := 12) (oi := ⟨some 110, _, _, _, _, _⟩) (v := .bool true) rfl (by kernel_rfl) (by kernel_rfl) (by kernel_rfl) (fun _ _ _ h => h) (Or.inl ⟨by kernel_rfl, ?_⟩) (by assumption) ?_
            · intro w' hSw; obtain ⟨q1, q2, q3⟩ := hSw.1.rules; obtain ⟨p1, p2, p3⟩ := hSw.2.1.rules; go_simp
            try simp only [Act.put, List.setIfInBounds_toArray, List.set_cons_zero, List.set_cons_succ]
            refine wpAnyH_take (i := 13) (oi := ⟨some 111, _, _, _, _, _⟩) (v := .bool true) rfl (by kernel_rfl) (by kernel_rfl) (by kernel_rfl) (fun _ _ _ h => h) (Or.inl ⟨by kernel_rfl, ?_⟩) (by assumption) ?_
            · intro w' hSw; obtain ⟨q1, q2, q3⟩ := hSw.1.rules; obtain ⟨p1, p2, p3⟩ := hSw.2.1.rules; go_simp
            try simp only [Act.put, List.setIfInBounds_toArray, List.set_cons_zero, List.set_cons_succ]
            refine wpAnyH_done (by kernel_rfl) ?_ _
            go_wp2_with fail
            refine (limit_any _ _ heL).mono ?_
            rintro e u1 ⟨rfl, rfl⟩
            go_wp2_with fail
            refine (limit_any _ _ heO).mono ?_
            rintro e u1 ⟨rfl, rfl⟩
            go_wp2_with fail
            refine (limit_any _ _ heT).mono ?_
            rintro e u1 ⟨rfl, rfl⟩
            go_wp2
            go_ret
            exact ⟨rfl, hS4.2.2⟩
          · have hgi : ¬ (256 : Int) ≤ (nv : Int) + (nw : Int) := by omega
            have hbb : Both jv jw := hboth.2 (by omega)
            obtain ⟨_, hoL, hRL, hNL⟩ := oL.resolve_right (fun h => h.1 hbb)
            obtain ⟨_, hoO, hRO, hNO⟩ := oO.resolve_right (fun h => h.1 hbb)
            obtain ⟨_, hoT, hRT, hNT⟩ := oT.resolve_right (fun h => h.1 ⟨hbb.2.1, hbb.1, by have := hbb.2.2; omega⟩)
            rw [sort_ba] at hoO hRO hNO
            rw [sort_ab] at hoT hRT hNT
            simp only [Prod.mk.injEq] at hoL hoO hoT
            obtain ⟨rfl, rfl, rfl⟩ := hoL
            obtain ⟨rfl, rfl, rfl⟩ := hoO
            obtain ⟨rfl, rfl, rfl⟩ := hoT
            clear hboth
            refine wp_region_held_drew (S := SWs w3.heap.size w5.heap.size #[.int .i64 k0, .int .i64 n0, .string s0, .slice A0 na0 ca0, .slice B0 nb0 cb0] #[.int .i64 k1, .int .i64 n1, .string s1, .slice A1 na1 ca1, .slice B1 nb1 cb1] w) (by kernel_rfl) hS0 (fun hHeld => ?_)
            refine wpAnyH_take (i := 0) (oi := ⟨some 98, _, _, _, _, _⟩) (v := .agg #[.int .i64 k0, .int .i64 n0, .string s0, .slice A0 na0 ca0, .slice B0 nb0 cb0]) rfl (by kernel_rfl) (by kernel_rfl) (by kernel_rfl) (fun _ _ _ h => h) (Or.inl ⟨by kernel_rfl, ?_⟩) (by assumption) ?_
            · intro w' hSw; obtain ⟨q1, q2, q3⟩ := hSw.1.rules; obtain ⟨p1, p2, p3⟩ := hSw.2.1.rules; go_simp
            try simp only [Act.put, List.setIfInBounds_toArray, List.set_cons_zero, List.set_cons_succ]
            refine wpAnyH_take (i := 2) (oi := ⟨some 100, _, _, _, _, _⟩) (v := .agg #[.int .i64 k1, .int .i64 n1, .string s1, .slice A1 na1 ca1, .slice B1 nb1 cb1]) rfl (by kernel_rfl) (by kernel_rfl) (by kernel_rfl) (fun _ _ _ h => h) (Or.inl ⟨by kernel_rfl, ?_⟩) (by assumption) ?_
            · intro w' hSw; obtain ⟨q1, q2, q3⟩ := hSw.1.rules; obtain ⟨p1, p2, p3⟩ := hSw.2.1.rules; go_simp
            try simp only [Act.put, List.setIfInBounds_toArray, List.set_cons_zero, List.set_cons_succ]
            refine wpAnyH_ready (rs := [1]) (by kernel_rfl) (by simp) ?_
            refine AllReadyH.cons (o := ⟨some 99, _, _, _, _, _⟩) rfl (fun K hK => ?_) AllReadyH.nil
            go_simp
            refine (HDv.out _ hS0.2.2 hDD0).mono ?_
            rintro e d1 ⟨rfl, hd1⟩
            have hS1 : SWs w3.heap.size w5.heap.size #[.int .i64 k0, .int .i64 n0, .string s0, .slice A0 na0 ca0, .slice B0 nb0 cb0] #[.int .i64 k1, .int .i64 n1, .string s1, .slice A1 na1 ca1, .slice B1 nb1 cb1] w d1 := ⟨hS0.1.keep hd1, hS0.2.1.keep hd1, hS0.2.2.trans (hd1.mono hS0.2.2.size)⟩
            have hDD1 := hDD0.trans (hd1.mono hDD0.size)
            refine hK.out _ _ hS1 (fun hHeld1 => ?_)
            clear hK K
            try simp only [Act.put, List.setIfInBounds_toArray, List.set_cons_zero, List.set_cons_succ]
            refine wpAnyH_ready (rs := [3]) (by kernel_rfl) (by simp) ?_
            refine AllReadyH.cons (o := ⟨some 101, _, _, _, _, _⟩) rfl (fun K hK => ?_) AllReadyH.nil
            go_simp
            refine (HDw.out _ hS1.2.2 hDD1).mono ?_
            rintro e d2 ⟨rfl, hd2⟩
            have hS2 : SWs w3.heap.size w5.heap.size #[.int .i64 k0, .int .i64 n0, .string s0, .slice A0 na0 ca0, .slice B0 nb0 cb0] #[.int .i64 k1, .int .i64 n1, .string s1, .slice A1 na1 ca1, .slice B1 nb1 cb1] w d2 := ⟨hS1.1.keep hd2, hS1.2.1.keep hd2, hS1.2.2.trans (hd2.mono hS1.2.2.size)⟩
            have hDD2 := hDD1.trans (hd2.mono hDD1.size)
            refine hK.out _ _ hS2 (fun hHeld2 => ?_)
            clear hK K
            try simp only [Act.put, List.setIfInBounds_toArray, List.set_cons_zero, List.set_cons_succ]
            refine wpAnyH_take (i := 4) (oi := ⟨some 102, _, _, _, _, _⟩) (v := .int .i64 dv) rfl (by kernel_rfl) (by kernel_rfl) (by kernel_rfl) (fun _ _ _ h => h) (Or.inl ⟨by kernel_rfl, ?_⟩) (by assumption) ?_
            · intro w' hSw; obtain ⟨q1, q2, q3⟩ := hSw.1.rules; obtain ⟨p1, p2, p3⟩ := hSw.2.1.rules; go_simp; omega
            try simp only [Act.put, List.setIfInBounds_toArray, List.set_cons_zero, List.set_cons_succ]
            refine wpAnyH_take (i := 5) (oi := ⟨some 103, _, _, _, _, _⟩) (v := .bool false) rfl (by kernel_rfl) (by kernel_rfl) (by kernel_rfl) (fun _ _ _ h => h) (Or.inl ⟨by kernel_rfl, ?_⟩) (by assumption) ?_
            · intro w' hSw; obtain ⟨q1, q2, q3⟩ := hSw.1.rules; obtain ⟨p1, p2, p3⟩ := hSw.2.1.rules; go_simp
            try simp only [Act.put, List.setIfInBounds_toArray, List.set_cons_zero, List.set_cons_succ]
            refine wpAnyH_take (i := 6) (oi := ⟨some 104, _, _, _, _, _⟩) (v := .bool false) rfl (by kernel_rfl) (by kernel_rfl) (by kernel_rfl) (fun _ _ _ h => h) (Or.inl ⟨by kernel_rfl, ?_⟩) (by assumption) ?_
            · intro w' hSw; obtain ⟨q1, q2, q3⟩ := hSw.1.rules; obtain ⟨p1, p2, p3⟩ := hSw.2.1.rules; go_simp
            try simp only [Act.put, List.setIfInBounds_toArray, List.set_cons_zero, List.set_cons_succ]
            refine wpAnyH_take (i := 7) (oi := ⟨some 105, _, _, _, _, _⟩) (v := .agg #[.int .i64 k0, .int .i64 n0, .string s0, .slice A0 na0 ca0, .slice B0 nb0 cb0]) rfl (by kernel_rfl) (by kernel_rfl) (by kernel_rfl) (fun _ _ _ h => h) (Or.inl ⟨by kernel_rfl, ?_⟩) (by assumption) ?_
            · intro w' hSw; obtain ⟨q1, q2, q3⟩ := hSw.1.rules; obtain ⟨p1, p2, p3⟩ := hSw.2.1.rules; go_simp
            try simp only [Act.put, List.setIfInBounds_toArray, List.set_cons_zero, List.set_cons_succ]
            refine wpAnyH_take (i := 9) (oi := ⟨some 107, _, _, _, _, _⟩) (v := .agg #[.int .i64 k1, .int .i64 n1, .string s1, .slice A1 na1 ca1, .slice B1 nb1 cb1]) rfl (by kernel_rfl) (by kernel_rfl) (by kernel_rfl) (fun _ _ _ h => h) (Or.inl ⟨by kernel_rfl, ?_⟩) (by assumption) ?_
            · intro w' hSw; obtain ⟨q1, q2, q3⟩ := hSw.1.rules; obtain ⟨p1, p2, p3⟩ := hSw.2.1.rules; go_simp
            try simp only [Act.put, List.setIfInBounds_toArray, List.set_cons_zero, List.set_cons_succ]
            refine wpAnyH_ready (rs := [8]) (by kernel_rfl) (by simp) ?_
            refine AllReadyH.cons (o := ⟨some 106, _, _, _, _, _⟩) rfl (fun K hK => ?_) AllReadyH.nil
            go_simp
            refine (HNv.out _ hS2.2.2 hDD2).mono ?_
            rintro e d3 ⟨rfl, hd3⟩
            have hS3 : SWs w3.heap.size w5.heap.size #[.int .i64 k0, .int .i64 n0, .string s0, .slice A0 na0 ca0, .slice B0 nb0 cb0] #[.int .i64 k1, .int .i64 n1, .string s1, .slice A1 na1 ca1, .slice B1 nb1 cb1] w d3 := ⟨hS2.1.keep hd3, hS2.2.1.keep hd3, hS2.2.2.trans (hd3.mono hS2.2.2.size)⟩
            have hDD3 := hDD2.trans (hd3.mono hDD2.size)
            refine hK.out _ _ hS3 (fun hHeld3 => ?_)
            clear hK K
            try simp only [Act.put, List.setIfInBounds_toArray, List.set_cons_zero, List.set_cons_succ]
            refine wpAnyH_ready (rs := [10]) (by kernel_rfl) (by simp) ?_
            refine AllReadyH.cons (o := ⟨some 108, _, _, _, _, _⟩) rfl (fun K hK => ?_) AllReadyH.nil
            go_simp
            refine (HNw.out _ hS3.2.2 hDD3).mono ?_
            rintro e d4 ⟨rfl, hd4⟩
            have hS4 : SWs w3.heap.size w5.heap.size #[.int .i64 k0, .int .i64 n0, .string s0, .slice A0 na0 ca0, .slice B0 nb0 cb0] #[.int .i64 k1, .int .i64 n1, .string s1, .slice A1 na1 ca1, .slice B1 nb1 cb1] w d4 := ⟨hS3.1.keep hd4, hS3.2.1.keep hd4, hS3.2.2.trans (hd4.mono hS3.2.2.size)⟩
            have hDD4 := hDD3.trans (hd4.mono hDD3.size)
            refine hK.out _ _ hS4 (fun hHeld4 => ?_)
            clear hK K
            try simp only [Act.put, List.setIfInBounds_toArray, List.set_cons_zero, List.set_cons_succ]
            refine wpAnyH_take (i := 11) (oi := ⟨some 109, _, _, _, _, _⟩) (v := .int .i64 (nv + nw : Nat)) rfl (by kernel_rfl) (by kernel_rfl) (by kernel_rfl) (fun _ _ _ h => h) (Or.inl ⟨by kernel_rfl, ?_⟩) (by assumption) ?_
            · intro w' hSw; obtain ⟨q1, q2, q3⟩ := hSw.1.rules; obtain ⟨p1, p2, p3⟩ := hSw.2.1.rules; go_simp
            try simp only [Act.put, List.setIfInBounds_toArray, List.set_cons_zero, List.set_cons_succ]
            refine wpAnyH_take (i := 12) (oi := ⟨some 110, _, _, _, _, _⟩) (v := .bool false) rfl (by kernel_rfl) (by kernel_rfl) (by kernel_rfl) (fun _ _ _ h => h) (Or.inl ⟨by kernel_rfl, ?_⟩) (by assumption) ?_
            · intro w' hSw; obtain ⟨q1, q2, q3⟩ := hSw.1.rules; obtain ⟨p1, p2, p3⟩ := hSw.2.1.rules; go_simp
            try simp only [Act.put, List.setIfInBounds_toArray, List.set_cons_zero, List.set_cons_succ]
            refine wpAnyH_take (i := 13) (oi := ⟨some 111, _, _, _, _, _⟩) (v := .bool false) rfl (by kernel_rfl) (by kernel_rfl) (by kernel_rfl) (fun _ _ _ h => h) (Or.inl ⟨by kernel_rfl, ?_⟩) (by assumption) ?_
            · intro w' hSw; obtain ⟨q1, q2, q3⟩ := hSw.1.rules; obtain ⟨p1, p2, p3⟩ := hSw.2.1.rules; go_simp
            try simp only [Act.put, List.setIfInBounds_toArray, List.set_cons_zero, List.set_cons_succ]
            refine wpAnyH_done (by kernel_rfl) ?_ _
            have hbd := hDD4
            have HBx := Lib.hid hS4.2.2
            have HKx := Lib.hid (And.intro (HKL.out.keep hbd) (And.intro (HKO.out.keep hbd) (And.intro (HKT.out.keep hbd) (And.intro (HKv.out.keep hbd) (HKw.out.keep hbd)))))
            have HVx := Lib.hid (And.intro (HVL.out.bel hbd) (And.intro (HVO.out.bel hbd) (And.intro (HVT.out.bel hbd) (And.intro (HVv.out.bel hbd) (HVw.out.bel hbd)))))
            obtain ⟨D, hD⟩ : ∃ D, d4 = D := ⟨_, rfl⟩
            rw [hD] at HBx HKx HVx ⊢
            clear hbd hD
            obtain ⟨c1, f1, l1⟩ := HKx.out.1.rules
            obtain ⟨c2, f2, l2⟩ := HKx.out.2.2.2.1.rules
            obtain ⟨c3, f3, l3⟩ := HKx.out.2.2.2.2.rules
            have hS1' := same_list HVx.out.2.2.2.1 HVx.out.2.2.2.2
            have hbz := (Below.refl D.heap.size D).alloc (Nat.le_refl _) (.cells #[.int .i64 k0, .int .i64 n0, .string s0, .slice A0 na0 ca0, .slice B0 nb0 cb0, .int .i64 k1, .int .i64 n1, .string s1, .slice A1 na1 ca1, .slice B1 nb1 cb1] 40)
            have HBz := Lib.hid (HBx.out.trans (hbz.mono HBx.out.size))
            have HSM := Lib.hid (vSame_any _ _ _ _ _ _ (HG.out.keep HBz.out) (HVx.out.1.bel hbz) hS1' hRL hNL)
            have HKz := Lib.hid (And.intro (HKx.out.2.1.keep hbz) (And.intro (HKx.out.2.2.1.keep hbz) (And.intro (HKx.out.2.2.2.1.keep hbz) (HKx.out.2.2.2.2.keep hbz))))
            have HVz := Lib.hid (And.intro (HVx.out.2.1.bel hbz) (And.intro (HVx.out.2.2.1.bel hbz) (And.intro (HVx.out.2.2.2.1.bel hbz) (HVx.out.2.2.2.2.bel hbz))))
            clear hbz hS1'
            go_wp2_with fail
            refine HSM.out.mono ?_
            rintro e E ⟨rfl, hbE⟩
            replace HKz := Lib.hid (And.intro (HKz.out.1.keep hbE) (And.intro (HKz.out.2.1.keep hbE) (And.intro (HKz.out.2.2.1.keep hbE) (HKz.out.2.2.2.keep hbE))))
            replace HVz := Lib.hid (And.intro (HVz.out.1.bel hbE) (And.intro (HVz.out.2.1.bel hbE) (And.intro (HVz.out.2.2.1.bel hbE) (HVz.out.2.2.2.bel hbE))))
            have HBE := Lib.hid (HBz.out.trans (hbE.mono HBz.out.size))
            clear c1 f1 l1 c2 f2 l2 c3 f3 l3 hbE HSM HKx HVx
            obtain ⟨c1, f1, l1⟩ := HKz.out.1.rules
            obtain ⟨c2, f2, l2⟩ := HKz.out.2.1.rules
            have HSM := Lib.hid (vSame_any _ _ _ _ _ E (HG.out.keep HBE.out) HVz.out.1 HVz.out.2.1 hRO hNO)
            go_wp2_with fail
            refine HSM.out.mono ?_
            rintro e G ⟨rfl, hbG⟩
            replace HKz := Lib.hid (And.intro (HKz.out.1.keep hbG) (And.intro (HKz.out.2.1.keep hbG) (And.intro (HKz.out.2.2.1.keep hbG) (HKz.out.2.2.2.keep hbG))))
            replace HVz := Lib.hid (And.intro (HVz.out.1.bel hbG) (And.intro (HVz.out.2.1.bel hbG) (And.intro (HVz.out.2.2.1.bel hbG) (HVz.out.2.2.2.bel hbG))))
            have HBG := Lib.hid (HBE.out.trans (hbG.mono HBE.out.size))
            clear c1 f1 l1 c2 f2 l2 hbG HSM HBE
            obtain ⟨c1, f1, l1⟩ := HKz.out.1.rules
            obtain ⟨c2, f2, l2⟩ := HKz.out.2.2.1.rules
            obtain ⟨c3, f3, l3⟩ := HKz.out.2.2.2.rules
            have hS2' := same_obj HVz.out.2.2.2 HVz.out.2.2.1
            have hbz := ((Below.refl G.heap.size G).alloc (Nat.le_refl _) (.cells #[.string ⟨#[97]⟩, .string ⟨#[98]⟩] 9)).alloc (by simp) (.cells #[.int .i64 k1, .int .i64 n1, .string s1, .slice A1 na1 ca1, .slice B1 nb1 cb1, .int .i64 k0, .int .i64 n0, .string s0, .slice A0 na0 ca0, .slice B0 nb0 cb0] 40)
            have HBy := Lib.hid (HBG.out.trans (hbz.mono HBG.out.size))
            have HSM := Lib.hid (vSame_any _ _ _ _ _ _ (HG.out.keep HBy.out) (HVz.out.1.bel hbz) hS2' hRO hNO)
            clear hbz hS2'
            go_wp2_with fail
            refine HSM.out.mono ?_
            rintro e H ⟨rfl, hbH⟩
            have HBH := Lib.hid (HBy.out.trans (hbH.mono HBy.out.size))
            clear hbH
            go_wp2
            go_ret
            exact ⟨rfl, HBH.out⟩
    · have hewb : (ew != 0) = true := by simpa using hew
      have hevb : (ev != 0) = false := by simpa using hev
      go_wp2
      go_ret
      exact ⟨rfl, HBT.out⟩
  · have hevb : (ev != 0) = true := by simpa using hev
    go_wp2
    go_ret
    exact ⟨rfl, HBT.out⟩
end Go.Proofs.YtalhoacancbldaaDoor
