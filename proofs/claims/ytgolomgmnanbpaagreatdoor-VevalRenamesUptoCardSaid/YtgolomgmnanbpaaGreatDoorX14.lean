import Derived.Test.YtgolomgmnanbpaaGreatDoorX13
import Derived.Test.YtgolomgmnanbpaaGreatDoorX11
import Derived.Test.YtgolomgmnanbpaaGreatDoorX01
import Derived.Test.YtgolomgmnanbpaaGreatDoorX09
import Derived.Deep.RegionHeld3
namespace Go.Proofs.YtgolomgmnanbpaaGreatDoor
set_option linter.unusedVariables false
set_option linter.unusedSimpArgs false
open Go.RowKit
attribute [local go_sem] run_index_arr run_part_agg run_part_one run_field_agg
theorem VR.anyW {W W' : World} {F F' : Nat → Prop} {cs : List Value} {k n : Int} {s : List UInt8} (h : VR W F cs (.mk k n s [] [])) : VR W' F' cs (.mk k n s [] []) := by
  obtain ⟨A, B, ca, cb, css, rfl, hvs, h1, h2, h3, h4, _, _⟩ := h.out
  exact VR.into (kids := []) (keys := []) (css := []) k n s VRs.nil (by simp) (by simp) h3 h4 RdF.nil RdF.nil rfl rfl
theorem textIs {s : List UInt8} (hg : good (jText s) = true) (hl : s.length ≤ 4194304) (W : World) (hG : GOK W) : Calls Tryz.prog 59 #[.string ⟨s.toArray⟩] W fun e w' => ∃ cs : List Value, e = .returned (.tuple #[.agg cs.toArray, .int .i64 0]) ∧ VR w' TT cs (jText s) ∧ Below W.heap.size W w' := by
  refine (vTextV_any s W hG (came_atom (by unfold iw; omega) (by unfold iw; omega) hl)).mono ?_
  rintro e w' ⟨cs, rfl, hv, hb⟩
  have hg' : good (.mk 4 0 s [] []) = true := hg
  rw [if_pos hg']
  exact ⟨cs.toList, by simp, hv hg', hb⟩
set_option maxRecDepth 100000 in
set_option maxHeartbeats 4000000 in
theorem mLiteral {pv : Value} {F : Nat → Prop} {w : World} {k : Int} {v : JV} {s : List UInt8} {kids : List EJ} {cs : List Value} (hF : ∀ b, F b → b < w.heap.size) (hx : ER w F cs (.mk k v s kids)) (hg : good v = true) (hc : Came v) :
    Calls Tryz.prog 71 #[pv, .agg cs.toArray] w (ExP (some v) F w) := by
  obtain ⟨k1, n1, s1, A1, na1, ca1, B1, nb1, cb1, A, ca, css, rfl, hv, h1, h2, h3, h4⟩ := hx.out
  obtain ⟨nr, hnr⟩ : ∃ q, kids.length = q := ⟨_, rfl⟩
  rw [hnr]
  have HH0 := Lib.hid (((Held.nil w).push 28 #[.int .i64 k, .int .i64 k1, .int .i64 n1, .string s1, .slice A1 na1 ca1, .slice B1 nb1 cb1, .string ⟨s.toArray⟩, .slice A nr ca] (g := w.heap.size) rfl).push 25 #[.int .i64 0, .int .i64 0, .string ⟨#[]⟩, .slice none 0 0, .slice none 0 0] (g := w.heap.size + 1) (by simp))
  have HV := Lib.hid (fun (W : World) (h : Below w.heap.size w W) => hv.bel h)
  have HQ := Lib.hid (And.intro hg hc)
  have HFF := Lib.hid hF
  clear hF hx hg hc hv h1 h2 h3 h4 hnr
  obtain ⟨c0, f0, l0⟩ := HH0.out.b1.rules
  obtain ⟨c1, f1, l1⟩ := HH0.out.b0.rules
  go_enter Tryz.func71, Tryz.ntmps71
  go_wp2
  refine bodyPost_ret (v := .tuple #[.agg #[.int .i64 k1, .int .i64 n1, .string s1, .slice A1 na1 ca1, .slice B1 nb1 cb1], .bool true]) (by simp only [results, Tryz.results71]; go_simp) rfl ?_
  have hb9 := ((Below.refl w.heap.size w).alloc (Nat.le_refl _) (.cells #[.int .i64 k, .int .i64 k1, .int .i64 n1, .string s1, .slice A1 na1 ca1, .slice B1 nb1 cb1, .string ⟨s.toArray⟩, .slice A nr ca] 28)).alloc (by simp) (.cells #[.int .i64 k1, .int .i64 n1, .string s1, .slice A1 na1 ca1, .slice B1 nb1 cb1] 25)
  exact ⟨_, v, true, rfl, (HV.out _ hb9).mono (fun b _ hb => .inl hb), HQ.out.2, rfl, fun _ => HQ.out.1, hb9⟩
set_option maxRecDepth 100000 in
set_option maxHeartbeats 4000000 in
theorem mKind {pv : Value} {F : Nat → Prop} {env : List (List UInt8 × JV)} {w : World} {k : Int} {v : JV} {s : List UInt8} {y : EJ} {r : List EJ} {cs : List Value} (hG : GOE w) (hF : ∀ b, F b → b < w.heap.size) (hk : KidC pv F env w y) (hx : ER w F cs (.mk k v s (y :: r))) :
    Calls Tryz.prog 77 #[pv, .agg cs.toArray] w (ExP ((evE env y).map fun a => jText (kindT a.kind)) F w) := by
  obtain ⟨k1, n1, s1, A1, na1, ca1, B1, nb1, cb1, A, ca, css, rfl, hv, h1, h2, h3, h4⟩ := hx.out
  obtain ⟨b, o, kx, px, nx, sx, Ax, nax, cax, Bx, nbx, cbx, tx, Cx, ncx, ccx, rfl, hb, hER, hz⟩ := kid_cellsE h1 h4 (i := 0) (x := y) rfl
  have HKC := Lib.hid (fun (W : World) (h : Below w.heap.size w W) => hk W _ h (hER.bel h))
  have HZZ := Lib.hid (fun (W : World) (h : Below w.heap.size w W) => hz W h)
  obtain ⟨nr, hnr⟩ : ∃ q, (y :: r).length = q := ⟨_, rfl⟩
  have hnr1 : 1 ≤ nr := by rw [← hnr]; simp
  rw [hnr] at h2 ⊢
  have HLB := Lib.hid hb
  obtain ⟨o0, ho0⟩ : ∃ o, evE env y = o := ⟨_, rfl⟩
  rw [ho0] at HKC ⊢
  have HH0 := Lib.hid (((Held.nil w).push 28 #[.int .i64 k, .int .i64 k1, .int .i64 n1, .string s1, .slice A1 na1 ca1, .slice B1 nb1 cb1, .string ⟨s.toArray⟩, .slice (some ⟨b, o, none⟩) nr ca] (g := w.heap.size) rfl).push 25 #[.int .i64 0, .int .i64 0, .string ⟨#[]⟩, .slice none 0 0, .slice none 0 0] (g := w.heap.size + 1) (by simp))
  have HG := Lib.hid hG
  have HFF := Lib.hid hF
  clear hk hx hv h1 h2 h3 h4 hER hz hb hnr ho0 hG hF
  obtain ⟨op, hop⟩ : ∃ p, (o0.map fun a => jText (kindT a.kind)) = p := ⟨_, rfl⟩
  have HOP := Lib.hid hop
  rw [hop]
  clear hop
  obtain ⟨c0, f0, l0⟩ := HH0.out.b1.rules
  obtain ⟨z0, z1, z2, z3, z4, z5, z6, z7⟩ := HZZ.out _ (Below.refl _ _)
  simp only [Nat.zero_mul, Nat.add_zero] at z0 z1 z2 z3 z4 z5 z6 z7
  have lb := HLB.out
  go_enter Tryz.func77, Tryz.ntmps77
  go_wp2_with fail
  refine (HKC.out _ HH0.out.1).mono ?_
  rintro e w1 ⟨cs1, v1, b1, rfl, hv1, hc1, ho, hg1, hb1⟩
  obtain ⟨vk, vn, vs, vkids, vkeys⟩ := v1
  obtain ⟨VA, VB, va, vb, vcss, rfl, _⟩ := hv1.out
  have HH1 := Lib.hid ((HH0.out.keep hb1).push 25 #[.int .i64 vk, .int .i64 vn, .string ⟨vs.toArray⟩, .slice VA vkids.length va, .slice VB vkeys.length vb] (g := w1.heap.size) rfl)
  have HO := Lib.hid ho
  have HGD := Lib.hid hg1
  clear hb1 c0 f0 l0 hv1 hc1 ho hg1 z0 z1 z2 z3 z4 z5 z6 z7 lb
  cases b1
  · go_wp2_with fail
    refine (mNone _).mono ?_
    rintro e wn ⟨rfl, hbn⟩
    have HHN := Lib.hid (HH1.out.keep hbn)
    clear hbn
    obtain ⟨c1, f1, l1⟩ := HHN.out.b1.rules
    go_wp2
    refine bodyPost_ret (v := .tuple #[.agg #[.int .i64 0, .int .i64 0, .string ⟨#[]⟩, .slice none 0 0, .slice none 0 0], .bool false]) (by simp only [results, Tryz.results77]; go_simp) rfl ?_
    exact ExP.none_ (w1 := w) (by rw [← HOP.out, HO.out]; rfl) (five_bel HHN.out.1 (by omega) _ _ _ _ _)
  · have hkk : 1 ≤ vk ∧ vk ≤ 6 := goodA_kind (goodJ_out (good_J (HGD.out (by trivial))).1).1
    obtain ⟨c0, f0, l0⟩ := HH1.out.b0.rules
    rcases (by omega : vk = 1 ∨ vk = 2 ∨ vk = 3 ∨ vk = 4 ∨ vk = 5 ∨ vk = 6) with rfl | rfl | rfl | rfl | rfl | rfl
    · have HTX := Lib.hid (fun W (h : GOK W) => textIs (s := [110, 117, 108, 108]) (by decide) (by decide) W h)
      have HH2 := Lib.hid (HH1.out.push 154 #[.string ⟨#[]⟩, .string ⟨#[110, 117, 108, 108]⟩, .string ⟨#[98, 111, 111, 108]⟩, .string ⟨#[105, 110, 116]⟩, .string ⟨#[116, 101, 120, 116]⟩, .string ⟨#[108, 105, 115, 116]⟩, .string ⟨#[111, 98, 106, 101, 99, 116]⟩] (g := w1.heap.size + 1) (by simp))
      go_wp2_with fail
      refine (HTX.out _ (HG.out.keep HH2.out.1).gok).mono ?_
      rintro e w2 ⟨cs2, rfl, hv2, hb2⟩
      have HV2 := Lib.hid hv2
      obtain ⟨k6, n6, s6, A6, na6, ca6, B6, nb6, cb6, rfl⟩ := hv2.form
      have HH3 := Lib.hid ((HH2.out.keep hb2).push 25 #[.int .i64 k6, .int .i64 n6, .string s6, .slice A6 na6 ca6, .slice B6 nb6 cb6] (g := w2.heap.size) rfl)
      clear hb2 hv2 c0 f0 l0
      obtain ⟨c9, f9, l9⟩ := HH3.out.b3.rules
      obtain ⟨c8, f8, l8⟩ := HH3.out.b0.rules
      go_wp2
      refine bodyPost_ret (v := .tuple #[.agg #[.int .i64 k6, .int .i64 n6, .string s6, .slice A6 na6 ca6, .slice B6 nb6 cb6], .bool true]) (by simp only [results, Tryz.results77]; go_simp) rfl ?_
      exact ⟨_, jText [110, 117, 108, 108], true, rfl, HV2.out.anyW, came_atom (by unfold iw; omega) (by unfold iw; omega) (by decide), by rw [← HOP.out, HO.out]; rfl, fun _ => by decide, five_bel HH3.out.1 (by omega) _ _ _ _ _⟩
    · have HTX := Lib.hid (fun W (h : GOK W) => textIs (s := [98, 111, 111, 108]) (by decide) (by decide) W h)
      have HH2 := Lib.hid (HH1.out.push 154 #[.string ⟨#[]⟩, .string ⟨#[110, 117, 108, 108]⟩, .string ⟨#[98, 111, 111, 108]⟩, .string ⟨#[105, 110, 116]⟩, .string ⟨#[116, 101, 120, 116]⟩, .string ⟨#[108, 105, 115, 116]⟩, .string ⟨#[111, 98, 106, 101, 99, 116]⟩] (g := w1.heap.size + 1) (by simp))
      go_wp2_with fail
      refine (HTX.out _ (HG.out.keep HH2.out.1).gok).mono ?_
      rintro e w2 ⟨cs2, rfl, hv2, hb2⟩
      have HV2 := Lib.hid hv2
      obtain ⟨k6, n6, s6, A6, na6, ca6, B6, nb6, cb6, rfl⟩ := hv2.form
      have HH3 := Lib.hid ((HH2.out.keep hb2).push 25 #[.int .i64 k6, .int .i64 n6, .string s6, .slice A6 na6 ca6, .slice B6 nb6 cb6] (g := w2.heap.size) rfl)
      clear hb2 hv2 c0 f0 l0
      obtain ⟨c9, f9, l9⟩ := HH3.out.b3.rules
      obtain ⟨c8, f8, l8⟩ := HH3.out.b0.rules
      go_wp2
      refine bodyPost_ret (v := .tuple #[.agg #[.int .i64 k6, .int .i64 n6, .string s6, .slice A6 na6 ca6, .slice B6 nb6 cb6], .bool true]) (by simp only [results, Tryz.results77]; go_simp) rfl ?_
      exact ⟨_, jText [98, 111, 111, 108], true, rfl, HV2.out.anyW, came_atom (by unfold iw; omega) (by unfold iw; omega) (by decide), by rw [← HOP.out, HO.out]; rfl, fun _ => by decide, five_bel HH3.out.1 (by omega) _ _ _ _ _⟩
    · have HTX := Lib.hid (fun W (h : GOK W) => textIs (s := [105, 110, 116]) (by decide) (by decide) W h)
      have HH2 := Lib.hid (HH1.out.push 154 #[.string ⟨#[]⟩, .string ⟨#[110, 117, 108, 108]⟩, .string ⟨#[98, 111, 111, 108]⟩, .string ⟨#[105, 110, 116]⟩, .string ⟨#[116, 101, 120, 116]⟩, .string ⟨#[108, 105, 115, 116]⟩, .string ⟨#[111, 98, 106, 101, 99, 116]⟩] (g := w1.heap.size + 1) (by simp))
      go_wp2_with fail
      refine (HTX.out _ (HG.out.keep HH2.out.1).gok).mono ?_
      rintro e w2 ⟨cs2, rfl, hv2, hb2⟩
      have HV2 := Lib.hid hv2
      obtain ⟨k6, n6, s6, A6, na6, ca6, B6, nb6, cb6, rfl⟩ := hv2.form
      have HH3 := Lib.hid ((HH2.out.keep hb2).push 25 #[.int .i64 k6, .int .i64 n6, .string s6, .slice A6 na6 ca6, .slice B6 nb6 cb6] (g := w2.heap.size) rfl)
      clear hb2 hv2 c0 f0 l0
      obtain ⟨c9, f9, l9⟩ := HH3.out.b3.rules
      obtain ⟨c8, f8, l8⟩ := HH3.out.b0.rules
      go_wp2
      refine bodyPost_ret (v := .tuple #[.agg #[.int .i64 k6, .int .i64 n6, .string s6, .slice A6 na6 ca6, .slice B6 nb6 cb6], .bool true]) (by simp only [results, Tryz.results77]; go_simp) rfl ?_
      exact ⟨_, jText [105, 110, 116], true, rfl, HV2.out.anyW, came_atom (by unfold iw; omega) (by unfold iw; omega) (by decide), by rw [← HOP.out, HO.out]; rfl, fun _ => by decide, five_bel HH3.out.1 (by omega) _ _ _ _ _⟩
    · have HTX := Lib.hid (fun W (h : GOK W) => textIs (s := [116, 101, 120, 116]) (by decide) (by decide) W h)
      have HH2 := Lib.hid (HH1.out.push 154 #[.string ⟨#[]⟩, .string ⟨#[110, 117, 108, 108]⟩, .string ⟨#[98, 111, 111, 108]⟩, .string ⟨#[105, 110, 116]⟩, .string ⟨#[116, 101, 120, 116]⟩, .string ⟨#[108, 105, 115, 116]⟩, .string ⟨#[111, 98, 106, 101, 99, 116]⟩] (g := w1.heap.size + 1) (by simp))
      go_wp2_with fail
      refine (HTX.out _ (HG.out.keep HH2.out.1).gok).mono ?_
      rintro e w2 ⟨cs2, rfl, hv2, hb2⟩
      have HV2 := Lib.hid hv2
      obtain ⟨k6, n6, s6, A6, na6, ca6, B6, nb6, cb6, rfl⟩ := hv2.form
      have HH3 := Lib.hid ((HH2.out.keep hb2).push 25 #[.int .i64 k6, .int .i64 n6, .string s6, .slice A6 na6 ca6, .slice B6 nb6 cb6] (g := w2.heap.size) rfl)
      clear hb2 hv2 c0 f0 l0
      obtain ⟨c9, f9, l9⟩ := HH3.out.b3.rules
      obtain ⟨c8, f8, l8⟩ := HH3.out.b0.rules
      go_wp2
      refine bodyPost_ret (v := .tuple #[.agg #[.int .i64 k6, .int .i64 n6, .string s6, .slice A6 na6 ca6, .slice B6 nb6 cb6], .bool true]) (by simp only [results, Tryz.results77]; go_simp) rfl ?_
      exact ⟨_, jText [116, 101, 120, 116], true, rfl, HV2.out.anyW, came_atom (by unfold iw; omega) (by unfold iw; omega) (by decide), by rw [← HOP.out, HO.out]; rfl, fun _ => by decide, five_bel HH3.out.1 (by omega) _ _ _ _ _⟩
    · have HTX := Lib.hid (fun W (h : GOK W) => textIs (s := [108, 105, 115, 116]) (by decide) (by decide) W h)
      have HH2 := Lib.hid (HH1.out.push 154 #[.string ⟨#[]⟩, .string ⟨#[110, 117, 108, 108]⟩, .string ⟨#[98, 111, 111, 108]⟩, .string ⟨#[105, 110, 116]⟩, .string ⟨#[116, 101, 120, 116]⟩, .string ⟨#[108, 105, 115, 116]⟩, .string ⟨#[111, 98, 106, 101, 99, 116]⟩] (g := w1.heap.size + 1) (by simp))
      go_wp2_with fail
      refine (HTX.out _ (HG.out.keep HH2.out.1).gok).mono ?_
      rintro e w2 ⟨cs2, rfl, hv2, hb2⟩
      have HV2 := Lib.hid hv2
      obtain ⟨k6, n6, s6, A6, na6, ca6, B6, nb6, cb6, rfl⟩ := hv2.form
      have HH3 := Lib.hid ((HH2.out.keep hb2).push 25 #[.int .i64 k6, .int .i64 n6, .string s6, .slice A6 na6 ca6, .slice B6 nb6 cb6] (g := w2.heap.size) rfl)
      clear hb2 hv2 c0 f0 l0
      obtain ⟨c9, f9, l9⟩ := HH3.out.b3.rules
      obtain ⟨c8, f8, l8⟩ := HH3.out.b0.rules
      go_wp2
      refine bodyPost_ret (v := .tuple #[.agg #[.int .i64 k6, .int .i64 n6, .string s6, .slice A6 na6 ca6, .slice B6 nb6 cb6], .bool true]) (by simp only [results, Tryz.results77]; go_simp) rfl ?_
      exact ⟨_, jText [108, 105, 115, 116], true, rfl, HV2.out.anyW, came_atom (by unfold iw; omega) (by unfold iw; omega) (by decide), by rw [← HOP.out, HO.out]; rfl, fun _ => by decide, five_bel HH3.out.1 (by omega) _ _ _ _ _⟩
    · have HTX := Lib.hid (fun W (h : GOK W) => textIs (s := [111, 98, 106, 101, 99, 116]) (by decide) (by decide) W h)
      have HH2 := Lib.hid (HH1.out.push 154 #[.string ⟨#[]⟩, .string ⟨#[110, 117, 108, 108]⟩, .string ⟨#[98, 111, 111, 108]⟩, .string ⟨#[105, 110, 116]⟩, .string ⟨#[116, 101, 120, 116]⟩, .string ⟨#[108, 105, 115, 116]⟩, .string ⟨#[111, 98, 106, 101, 99, 116]⟩] (g := w1.heap.size + 1) (by simp))
      go_wp2_with fail
      refine (HTX.out _ (HG.out.keep HH2.out.1).gok).mono ?_
      rintro e w2 ⟨cs2, rfl, hv2, hb2⟩
      have HV2 := Lib.hid hv2
      obtain ⟨k6, n6, s6, A6, na6, ca6, B6, nb6, cb6, rfl⟩ := hv2.form
      have HH3 := Lib.hid ((HH2.out.keep hb2).push 25 #[.int .i64 k6, .int .i64 n6, .string s6, .slice A6 na6 ca6, .slice B6 nb6 cb6] (g := w2.heap.size) rfl)
      clear hb2 hv2 c0 f0 l0
      obtain ⟨c9, f9, l9⟩ := HH3.out.b3.rules
      obtain ⟨c8, f8, l8⟩ := HH3.out.b0.rules
      go_wp2
      refine bodyPost_ret (v := .tuple #[.agg #[.int .i64 k6, .int .i64 n6, .string s6, .slice A6 na6 ca6, .slice B6 nb6 cb6], .bool true]) (by simp only [results, Tryz.results77]; go_simp) rfl ?_
      exact ⟨_, jText [111, 98, 106, 101, 99, 116], true, rfl, HV2.out.anyW, came_atom (by unfold iw; omega) (by unfold iw; omega) (by decide), by rw [← HOP.out, HO.out]; rfl, fun _ => by decide, five_bel HH3.out.1 (by omega) _ _ _ _ _⟩
end Go.Proofs.YtgolomgmnanbpaaGreatDoor
namespace Go.Proofs.YtgolomgmnanbpaaGreatDoor
set_option linter.unusedVariables false
set_option linter.unusedSimpArgs false
open Go.RowKit
attribute [local go_sem] run_index_arr run_part_agg run_part_one run_field_agg
def LisFP (F : Nat → Prop) (xs : List JV) (w : World) (e : Ending) (w' : World) : Prop := ∃ cs : Array Value, e = .returned (.tuple #[.agg cs, .int .i64 (if good (.mk 5 0 [] xs []) = true then 0 else 140)]) ∧
  (good (.mk 5 0 [] xs []) = true → VR w' (FN F w) cs.toList (.mk 5 0 [] xs [])) ∧ (¬ good (.mk 5 0 [] xs []) = true → cs = zeroCs) ∧ Below w.heap.size w w'
set_option maxRecDepth 100000 in
set_option maxHeartbeats 8000000 in
theorem vListF (css : List (List Value)) (xs : List JV) (F : Nat → Prop) (A : Option Addr) (n cap : Nat) (w : World) (hG : GOK w) (h1 : VRs w F css xs) (hn : xs.length = n) (hr : RdF w F A css.flatten) (hl : n ≤ 4194304) (hc : Came (.mk 5 0 [] xs [])) :
    Calls Tryz.prog 123 #[.slice A n cap] w (LisFP F xs w) := by
  have HB0 := Lib.hid ((Below.refl w.heap.size w).alloc (Nat.le_refl _) (.cells zeroCs 25))
  have HCL := Lib.hid (valClone_any css xs F A n cap _ (h1.below HB0.out) hn (hr.keep (KeepF.of_below HB0.out)) hl)
  have HV0 := Lib.hid (h1.mono (F' := fun b => (F b ∧ b < w.heap.size) ∨ w.heap.size < b) fun b hb hF => .inl ⟨hF, hb⟩)
  have HG := Lib.hid hG
  have HN := Lib.hid hn
  have HC := Lib.hid hc
  have HH0 := Lib.hid ((Held.nil w).push 25 zeroCs (g := w.heap.size) rfl)
  clear h1 hn hr hl hc hG
  have HNE := Lib.hid (fun (b : Nat) (h : (F b ∧ b < w.heap.size) ∨ w.heap.size < b) => show b ≠ w.heap.size by omega)
  have HTO := Lib.hid (fun (b : Nat) (h : (F b ∧ b < w.heap.size) ∨ w.heap.size < b) => show FN F w b from h.elim (fun h => .inl h.1) (fun h => .inr (by omega)))
  unfold zeroCs at HB0 HCL HH0
  go_enter Tryz.func123, Tryz.ntmps123
  go_wp2_with fail
  refine HCL.out.mono ?_
  rintro e w1 ⟨v1, rfl, hown, hb1⟩
  obtain ⟨A1, c1, rfl, hc1, hA1, hr1⟩ := own_parts hown
  have HH1 := Lib.hid (HH0.out.keep hb1)
  have HVL := Lib.hid (vr_list (F := fun b => (F b ∧ b < w.heap.size) ∨ w.heap.size < b) ((HV0.out).below HH1.out.1) HN.out hc1 hA1 (hr1.mono fun b _ hb => by simp at hb; exact .inr (by omega)))
  clear hb1 hown hc1 hA1 hr1 HH0 HCL HB0
  go_wp2_with fail
  refine (vWhole_any (.mk 5 0 [] xs []) [.int .i64 5, .int .i64 0, .string ⟨#[]⟩, .slice A1 n c1,   .slice none 0 0] _ w1 (HG.out.keep HH1.out.1) HVL.out HC.out).mono ?_
  rintro e w2 ⟨rfl, hb2⟩
  have HH2 := Lib.hid (HH1.out.keep hb2)
  have HVL2 := Lib.hid (HVL.out.bel hb2)
  clear hb2 HH1 HVL
  obtain ⟨c3, f3, l3⟩ := HH2.out.b0.rules
  by_cases hg : good (.mk 5 0 [] xs []) = true
  · unfold LisFP
    rw [if_pos hg, if_pos hg]
    go_wp2
    have hb5 := five_bel HH2.out.1 (g := w.heap.size) (Nat.le_refl _) (.int .i64 5) (.int .i64 0) (.string ⟨#[]⟩) (.slice A1 n c1) (.slice none 0 0)
    refine bodyPost_ret (v := .tuple #[.agg #[.int .i64 5, .int .i64 0, .string ⟨#[]⟩, .slice A1 n c1, .slice none 0 0], .int .i64 0]) (by simp only [results, Tryz.results123]; go_simp) rfl ?_
    exact ⟨_, by rw [if_pos hg], fun _ => (HVL2.out.keep (((((KeepF.refl.set HNE.out 0 _).set HNE.out 1 _).set HNE.out 2 _).set HNE.out 3 _).set HNE.out 4 _)).mono (fun b _ hb => HTO.out b hb), fun h => absurd hg h, hb5⟩
  · unfold LisFP
    rw [if_neg hg, if_neg hg]
    unfold zeroCs
    go_wp2
    refine bodyPost_ret (v := .tuple #[.agg #[.int .i64 0, .int .i64 0, .string ⟨#[]⟩, .slice none 0 0, .slice none 0 0], .int .i64 140]) (by simp only [results, Tryz.results123]; go_simp) rfl ?_
    exact ⟨zeroCs, by rw [if_neg hg]; rfl, fun h => absurd h hg, fun _ => rfl, five_bel HH2.out.1 (Nat.le_refl _) _ _ _ _ _⟩
end Go.Proofs.YtgolomgmnanbpaaGreatDoor
namespace Go.Proofs.YtgolomgmnanbpaaGreatDoor
set_option linter.unusedVariables false
set_option linter.unusedSimpArgs false
open Go.RowKit
attribute [local go_sem] run_index_arr run_part_agg run_part_one run_field_agg
def FO (G : Nat → Prop) (row : Value) (b : Nat) : Prop := G b ∧ some b ≠ row.ownBlock
theorem vrs_growG {w w2 : World} {G : Nat → Prop} {row row2 : Value} {css : List (List Value)} {kids : List JV} (h : VRs w (FO G row) css kids) (hg : w.grownBy w2 row.ownBlock) (ho : row2.ownBlock = row.ownBlock ∨ row2.ownBlock = some w.heap.size) :
    VRs w2 (FO G row2) css kids := by
  have h1 : VRs w (fun b => FO G row b ∧ b < w.heap.size) css kids := h.mono fun b hb hF => ⟨hF, hb⟩
  have h2 : VRs w2 (fun b => FO G row b ∧ b < w.heap.size) css kids := h1.keep (KeepF.of_grown hg fun b hb => hb.1.2)
  refine h2.mono fun b _ hF => ⟨hF.1.1, fun e => ?_⟩
  rcases ho with ho | ho
  · exact hF.1.2 (by rw [e, ho])
  · rw [ho] at e
    have : b = w.heap.size := by injection e
    omega
theorem Held.grown {L : List (Nat × TypeId × Array Value)} {w0 W W' : World} {r : Option Nat} (h : Held L w0 W) (hg : W.grownBy W' r) (hr : ∀ k, r = some k → w0.heap.size ≤ k) (hL : ∀ x ∈ L, some x.1 ≠ r) : Held L w0 W' :=
  ⟨h.1.grown hg h.1.size hr, fun x hx => (h.2 x hx).grown hg (hL x hx)⟩
theorem allS_some : ∀ xs : List JV, allS (xs.map some) = some xs
  | [] => rfl
  | x :: r => by rw [List.map_cons, allS, allS_some r]
theorem allS_none : ∀ {l : List (Option JV)}, none ∈ l → allS l = none
  | none :: r, _ => rfl
  | some v :: r, h => by
    rw [allS, allS_none (l := r) (by simpa using h)]
theorem came_good {xs : List JV} (h : ∀ x ∈ xs, Came x ∧ good x = true) (hn : xs.length ≤ 16000) : Came (jArr xs) := by
  have hnod : ∀ l : List JV, (∀ x ∈ l, good x = true) → nodesL l ≤ 256 * l.length := by
    intro l
    induction l with
    | nil => intro _; simp [nodesL]
    | cons x r ih =>
      intro hg
      have h1 := (good_J (hg x List.mem_cons_self)).2
      have h2 := ih (fun y hy => hg y (List.mem_cons_of_mem _ hy))
      rw [nodesL, List.length_cons]
      omega
  have h3 := hnod xs (fun x hx => (h x hx).2)
  refine ⟨?_, ?_, ?_⟩
  · unfold jArr inJ
    exact ⟨by unfold iw; omega, by unfold iw; omega, inL_iff.2 fun x hx => (h x hx).1.ints⟩
  · unfold jArr nodesJ; omega
  · unfold jArr lenJ
    exact ⟨by simp, by omega, by simp, by simp, lenL_iff.2 fun x hx => (h x hx).1.lens⟩
def listJ (l : List (Option JV)) : Option JV := match allS l with | some xs => if good (jArr xs) = true then some (jArr xs) else none | none => none
theorem infoVal9 : (Tryz.prog.info? 25).map (fun i => (i.zero, i.size, i.bytes)) = some (some (.agg #[.int .i64 0, .int .i64 0, .string ⟨#[]⟩, .slice none 0 0, .slice none 0 0]), 5, 80) := by kernel_rfl
set_option maxRecDepth 100000 in
set_option maxHeartbeats 8000000 in
theorem mList {pv : Value} {F : Nat → Prop} {env : List (List UInt8 × JV)} {w : World} {k : Int} {v : JV} {s : List UInt8} {kids : List EJ} {cs : List Value} (hG : GOE w) (hF : ∀ b, F b → b < w.heap.size) (hk : ∀ y ∈ kids, KidC pv F env w y) (hx : ER w F cs (.mk k v s kids)) (hn : kids.length ≤ 16000) :
    Calls Tryz.prog 74 #[pv, .agg cs.toArray] w (ExP (listJ (kids.map (evE env))) F w) := by
  obtain ⟨k1, n1, s1, A1, na1, ca1, B1, nb1, cb1, A, ca, css0, rfl, hv, h1, h2, h3, h4⟩ := hx.out
  have HKD := Lib.hid (And.intro h1 h4)
  have HKC := Lib.hid hk
  obtain ⟨nr, hnr⟩ : ∃ q, kids.length = q := ⟨_, rfl⟩
  have HNR := Lib.hid hnr
  rw [hnr] at h2 hn ⊢
  have HH0 := Lib.hid (((Held.nil w).push 28 #[.int .i64 k, .int .i64 k1, .int .i64 n1, .string s1, .slice A1 na1 ca1, .slice B1 nb1 cb1, .string ⟨s.toArray⟩, .slice A nr ca] (g := w.heap.size) rfl).push 25 #[.int .i64 0, .int .i64 0, .string ⟨#[]⟩, .slice none 0 0, .slice none 0 0] (g := w.heap.size + 1) (by simp))
  have HG := Lib.hid hG
  have HFF := Lib.hid hF
  obtain ⟨i0, hi, hz0, hz1, hz2⟩ := info_parts infoVal9
  have HI := Lib.hid hi
  obtain ⟨W0, hW0⟩ : ∃ W0 : World, W0.heap.size = w.heap.size + 2 := ⟨(w.alloc (.cells #[] 25)).alloc (.cells #[] 25), by simp⟩
  have HW0 := Lib.hid hW0
  clear hW0 hk hx hv h1 h2 h3 h4 hnr hG hF hi
  obtain ⟨c0, f0, l0⟩ := HH0.out.b1.rules
  go_enter Tryz.func74, Tryz.ntmps74
  go_wp2
  clear c0 f0 l0
  go_loopg [6, 16] nr (fun gk s6 s16 wr => ∃ (i : Nat) (row : Value) (xs : List JV) (css : List (List Value)), row = s6 ∧ i ≤ nr ∧ gk = nr - i ∧ s16 = .int .i64 (i : Int) ∧
    Hid (Held [(w.heap.size + 1, 25, #[.int .i64 0, .int .i64 0, .string ⟨#[]⟩, .slice none 0 0, .slice none 0 0]), (w.heap.size, 28, #[.int .i64 k, .int .i64 k1, .int .i64 n1, .string s1, .slice A1 na1 ca1, .slice B1 nb1 cb1, .string ⟨s.toArray⟩, .slice A nr ca])] w wr) ∧
    Hid (wr.ownsRow (w.heap.size + 2) 25 5 row i css.flatten) ∧ Hid (VRs wr (FO (FN F W0) row) css xs) ∧ Hid (xs.length = i ∧ (kids.take i).map (evE env) = xs.map some ∧ ∀ x ∈ xs, Came x ∧ good x = true))
  case atStart => exact ⟨0, _, [], [], rfl, Nat.zero_le _, by go_num, rfl, HH0, Lib.hid (World.ownsRow_nil _ _ _ _), Lib.hid VRs.nil, Lib.hid ⟨rfl, rfl, fun x hx => by cases hx⟩⟩
  case round =>
    obtain ⟨i, row, xs, css, rfl, hin, hgk, rfl, HH, HO, HV, HX⟩ := hrel
    have HGK := Lib.hid hgk
    clear hgk HH0
    by_cases hlt : i < nr
    · obtain ⟨x, hx⟩ : ∃ x, kids[i]? = some x := ⟨_, List.getElem?_eq_getElem (by rw [HNR.out]; exact hlt)⟩
      have hxm := List.mem_of_getElem? hx
      obtain ⟨b, o, k', k1', n1', s1', A1', na1', ca1', B1', nb1', cb1', s', A2', n2', ca2', rfl, hb, hER, hz⟩ := kid_cellsE HKD.out.1 HKD.out.2 hx
      obtain ⟨z0, z1, z2, z3, z4, z5, z6, z7⟩ := hz wr HH.out.1
      have HTK := Lib.hid (show kids.take (i + 1) = kids.take i ++ [x] by rw [List.take_add_one, hx]; rfl)
      have HXN := Lib.hid (show evE env x = none → listJ (kids.map (evE env)) = none from fun h0 => by
        unfold listJ; rw [allS_none (List.mem_map.2 ⟨x, hxm, h0⟩)])
      have HE := Lib.hid (fun (W : World) (h : Below w.heap.size w W) => HKC.out x hxm W _ h (hER.bel h))
      have hlb : b < wr.heap.size := Nat.lt_of_lt_of_le hb HH.out.1.size
      have HP := Lib.hid ((HH.out).push 28 #[.int .i64 k', .int .i64 k1', .int .i64 n1', .string s1', .slice A1' na1' ca1', .slice B1' nb1' cb1', .string s', .slice A2' n2' ca2'] (g := wr.heap.size) rfl)
      have HO1 := Lib.hid (HO.out.alloc (.cells #[.int .i64 k', .int .i64 k1', .int .i64 n1', .string s1', .slice A1' na1' ca1', .slice B1' nb1' cb1', .string s', .slice A2' n2' ca2'] 28))
      have HV1 := Lib.hid (HV.out.below ((Below.refl _ wr).alloc (Nat.le_refl _) (.cells #[.int .i64 k', .int .i64 k1', .int .i64 n1', .string s1', .slice A1' na1' ca1', .slice B1' nb1' cb1', .string s', .slice A2' n2' ca2'] 28)))
      clear hz hER hx hxm hb
      go_wp2_with fail
      refine (HE.out _ HP.out.1).mono ?_
      rintro e w4 ⟨cs4, v4, b4, rfl, hv4, hc4, ho4, hg4, hb4⟩
      clear z0 z1 z2 z3 z4 z5 z6 z7
      have HV4 := Lib.hid hv4
      obtain ⟨k5, n5, s5, A5, na5, ca5, B5, nb5, cb5, rfl⟩ := hv4.form
      have HQ4 := Lib.hid (And.intro hc4 (And.intro ho4 hg4))
      have hsz : wr.heap.size < w4.heap.size := by have := hb4.size; simp at this; omega
      obtain ⟨W5, hW5⟩ : ∃ W5, w4.alloc (.cells #[.int .i64 k5, .int .i64 n5, .string s5, .slice A5 na5 ca5, .slice B5 nb5 cb5] 25) = W5 := ⟨_, rfl⟩
      have h45 : Below w4.heap.size w4 W5 := by rw [← hW5]; exact (Below.refl _ w4).alloc (Nat.le_refl _) _
      have HP5 := Lib.hid (show Held ((w4.heap.size, 25, #[.int .i64 k5, .int .i64 n5, .string s5, .slice A5 na5 ca5, .slice B5 nb5 cb5]) :: _) w W5 by rw [← hW5]; exact (HP.out.keep hb4).push 25 #[.int .i64 k5, .int .i64 n5, .string s5, .slice A5 na5 ca5, .slice B5 nb5 cb5] (g := w4.heap.size) rfl)
      have HO5 := Lib.hid (ownBel (ownBel HO1.out hb4) h45)
      have HV5 := Lib.hid ((HV1.out.below hb4).below h45)
      have HX5 := Lib.hid (HV4.out.bel h45)
      have HS5 := Lib.hid (show W5.heap.size = w4.heap.size + 1 by rw [← hW5]; simp)
      have HW5 := Lib.hid hW5
      have hwr2 : w.heap.size + 2 ≤ wr.heap.size := HH.out.b0.lt
      clear hv4 hc4 ho4 hg4 hb4 h45 hW5
      cases b4
      · go_wp2_with fail
        rw [HW5.out]
        refine (mNone _).mono ?_
        rintro e wn ⟨rfl, hbn⟩
        have HHN := Lib.hid (HP5.out.keep hbn)
        clear hbn
        obtain ⟨c1, f1, l1⟩ := HHN.out.b2.rules
        go_wp2
        refine bodyPost_ret (v := .tuple #[.agg #[.int .i64 0, .int .i64 0, .string ⟨#[]⟩, .slice none 0 0, .slice none 0 0], .bool false]) (by simp only [results, Tryz.results74]; go_simp) rfl ?_
        exact ExP.none_ (w1 := w) (HXN.out (by rw [HQ4.out.2.1]; rfl)) (five_bel HHN.out.1 (by omega) _ _ _ _ _)
      · have HXG := Lib.hid (And.intro HQ4.out.1 (HQ4.out.2.2 rfl))
        have HOE := Lib.hid (show evE env x = some v4 by rw [HQ4.out.2.1]; rfl)
        have HRW := Lib.hid (fun (j : Nat) (e : row.ownBlock = some j) => HO.out.lt j e)
        go_upto_region 8 with (fail)
        rw [HW5.out]
        obtain ⟨c0, f0, l0⟩ := HP5.out.b0.rules
        have hO6 := Lib.hid (HO5.out.alloc (.cells #[.int .i64 k5, .int .i64 n5, .string s5, .slice A5 na5 ca5, .slice B5 nb5 cb5] 25))
        have hR6 := Lib.hid (Rd.of_blk (Blk.new W5 25 #[.int .i64 k5, .int .i64 n5, .string s5, .slice A5 na5 ca5, .slice B5 nb5 cb5]))
        have H1C := Lib.hid (show ∀ u ∈ ([.int .i64 k5, .int .i64 n5, .string s5, .slice A5 na5 ca5, .slice B5 nb5 cb5] : List Value), u.oneCell' = true from HV4.out.one)
        have HBS := Lib.hid (show w.heap.size + 2 ≤ (W5.alloc (.cells #[.int .i64 k5, .int .i64 n5, .string s5, .slice A5 na5 ca5, .slice B5 nb5 cb5] 25)).heap.size by rw [World.size_alloc, HS5.out]; omega)
        go_wp2_with (at_builtin; refine wpList_append_rd _ rfl _ _ 22 rfl (w.heap.size + 2) 25 i0 _ 5 80 Tryz.underlying22 HI.out hz0 hz1 hz2 rfl (by decide) row i css.flatten rfl hO6.out (some ⟨W5.heap.size, 0, none⟩) 1 1 (fun h => by cases h) [.int .i64 k5, .int .i64 n5, .string s5, .slice A5 na5 ca5, .slice B5 nb5 cb5] rfl rfl hR6.out H1C.out (by unfold maxLen; omega) (by omega) HBS.out ?_; intro row2 w6 hown6 hgr6 hob6)
        have hHH : Held [(w.heap.size + 1, 25, #[.int .i64 0, .int .i64 0, .string ⟨#[]⟩, .slice none 0 0, .slice none 0 0]), (w.heap.size, 28, #[.int .i64 k, .int .i64 k1, .int .i64 n1, .string s1, .slice A1 na1 ca1, .slice B1 nb1 cb1, .string ⟨s.toArray⟩, .slice (some ⟨b, o, none⟩) nr ca])] w w6 := by
          refine ((HP5.out.pop.pop).alloc _).grown hgr6 (fun j e => by have := HRW.out j e; omega) (fun y hy e => ?_)
          simp only [List.mem_cons, List.not_mem_nil, or_false] at hy
          rcases hy with rfl | rfl
          · have := HRW.out _ e.symm; omega
          · have := HRW.out _ e.symm; omega
        have hVV : VRs w6 (FO (FN F W0) row2) (css ++ [([.int .i64 k5, .int .i64 n5, .string s5, .slice A5 na5 ca5, .slice B5 nb5 cb5] : List Value)]) (xs ++ [v4]) := by
          refine vrs_growG ?_ hgr6 hob6
          refine (HV5.out.below ((Below.refl _ _).alloc (Nat.le_refl _) _)).snoc ((HX5.out.bel ((Below.refl _ _).alloc (Nat.le_refl _) _)).mono fun b' _ hb' => ?_)
          have hw0 := HW0.out
          rcases hb' with hb' | hb'
          · exact ⟨.inl hb', fun e => by have := HRW.out _ e.symm; have := HFF.out _ hb'; omega⟩
          · simp at hb'
            exact ⟨.inr (by omega), fun e => by have := HRW.out _ e.symm; omega⟩
        have hOO : w6.ownsRow (w.heap.size + 2) 25 5 row2 (i + 1) (css ++ [([.int .i64 k5, .int .i64 n5, .string s5, .slice A5 na5 ca5, .slice B5 nb5 cb5] : List Value)]).flatten := by
          rw [List.flatten_append]; simpa using hown6
        have hXX : (xs ++ [v4]).length = i + 1 ∧ (kids.take (i + 1)).map (evE env) = (xs ++ [v4]).map some ∧ ∀ x ∈ xs ++ [v4], Came x ∧ good x = true := by
          obtain ⟨a1, a2, a3⟩ := HX.out
          refine ⟨by rw [List.length_append, a1]; rfl, by rw [HTK.out, List.map_append, a2, List.map_append]; simp [HOE.out], fun y hy => ?_⟩
          rcases List.mem_append.1 hy with hy | hy
          · exact a3 y hy
          · obtain rfl : y = v4 := by simpa using hy
            exact HXG.out
        have H9 := Lib.hid (And.intro hHH (And.intro hOO (And.intro hVV hXX)))
        clear hHH hOO hVV hXX hown6 hgr6 hob6 c0 f0 l0
        go_roundg (nr - (i + 1))
        case measure => have := HGK.out; omega
        case rel => exact ⟨i + 1, row2, _, _, rfl, by omega, rfl, by go_num, Lib.hid H9.out.1, Lib.hid H9.out.2.1, Lib.hid H9.out.2.2.1, Lib.hid H9.out.2.2.2⟩
    · obtain rfl : i = nr := by omega
      obtain ⟨RA, rc, rfl, hrc, hrn, hrr⟩ := own_parts HO.out
      obtain ⟨a1, a2, a3⟩ := HX.out
      have hall : kids.map (evE env) = xs.map some := by rw [← a2, List.take_of_length_le (Nat.le_of_eq HNR.out)]
      have HOP := Lib.hid (show listJ (kids.map (evE env)) = if good (jArr xs) = true then some (jArr xs) else none by unfold listJ; rw [hall, allS_some])
      have hcl : Came (jArr xs) := came_good a3 (by omega)
      have HCL := Lib.hid hcl
      have hw0 := HW0.out
      have HLI := Lib.hid (vListF css xs (FN F W0) RA i rc wr (HG.out.keep HH.out.1).gok (HV.out.mono fun b _ h => h.1) a1 (hrr.mono fun b _ h => .inr (by omega)) (by omega) hcl)
      clear a1 a2 a3 hall hcl hrc hrn hrr
      go_wp2_with fail
      refine HLI.out.mono ?_
      rintro e w4 ⟨cs4, rfl, hvg, hvn, hb4⟩
      by_cases hg : good (jArr xs) = true
      · have hg' : good (.mk 5 0 [] xs []) = true := hg
        have hv4 := hvg hg'
        rw [if_pos hg']
        obtain ⟨k5, n5, s5, A5, na5, ca5, B5, nb5, cb5, hf⟩ := hv4.form
        obtain rfl : cs4 = #[.int .i64 k5, .int .i64 n5, .string s5, .slice A5 na5 ca5, .slice B5 nb5 cb5] := by rw [← Array.toArray_toList (xs := cs4)]; exact congrArg List.toArray hf
        have HP4 := Lib.hid ((HH.out.keep hb4).push 25 #[.int .i64 k5, .int .i64 n5, .string s5, .slice A5 na5 ca5, .slice B5 nb5 cb5] (g := w4.heap.size) rfl)
        have HV4 := Lib.hid ((hv4.bel ((Below.refl _ w4).alloc (Nat.le_refl _) (.cells #[.int .i64 k5, .int .i64 n5, .string s5, .slice A5 na5 ca5, .slice B5 nb5 cb5] 25))).mono (F' := FN F W0) fun b _ hb => by
          rcases hb with (hb | hb) | hb
          · exact .inl hb
          · exact .inr hb
          · exact .inr (by have := HH.out.b0.lt; omega))
        have hne : w4.heap.size ≠ w.heap.size + 1 := by have := HH.out.b0.lt; have := hb4.size; omega
        have hne2 : w.heap.size + 1 ≠ w4.heap.size := hne.symm
        have HG5 := Lib.hid (show listJ (kids.map (evE env)) = some (jArr xs) by rw [HOP.out, if_pos hg])
        have HGG := Lib.hid hg
        clear hvg hvn hb4 hf hv4 hg hg'
        obtain ⟨c0, f0, l0⟩ := HP4.out.b0.rules
        obtain ⟨c1, f1, l1⟩ := HP4.out.b1.rules
        go_wp2
        refine bodyPost_ret (v := .tuple #[.agg #[.int .i64 k5, .int .i64 n5, .string s5, .slice A5 na5 ca5, .slice B5 nb5 cb5], .bool true]) (by simp only [results, Tryz.results74]; go_simp) rfl ?_
        refine ⟨_, jArr xs, true, rfl, ?_, HCL.out, by rw [HG5.out]; rfl, fun _ => HGG.out, five_bel HP4.out.1 (by omega) _ _ _ _ _⟩
        exact HV4.out.out5 HFF.out (by rw [HW0.out]; omega) (g := w.heap.size + 1) (by omega) (by rw [HW0.out]; omega) _ _ _ _ _
      · have hg' : ¬ good (.mk 5 0 [] xs []) = true := hg
        rw [if_neg hg']
        obtain rfl := hvn hg'
        have HP4 := Lib.hid ((HH.out.keep hb4).push 25 #[.int .i64 0, .int .i64 0, .string ⟨#[]⟩, .slice none 0 0, .slice none 0 0] (g := w4.heap.size) rfl)
        have hne : w4.heap.size ≠ w.heap.size + 1 := by have := HH.out.b0.lt; have := hb4.size; omega
        have hne2 : w.heap.size + 1 ≠ w4.heap.size := hne.symm
        have HG5 := Lib.hid (show listJ (kids.map (evE env)) = none by rw [HOP.out, if_neg hg])
        clear hvg hvn hb4 hg hg'
        unfold zeroCs
        obtain ⟨c0, f0, l0⟩ := HP4.out.b0.rules
        obtain ⟨c1, f1, l1⟩ := HP4.out.b1.rules
        go_wp2
        refine bodyPost_ret (v := .tuple #[.agg #[.int .i64 0, .int .i64 0, .string ⟨#[]⟩, .slice none 0 0, .slice none 0 0], .bool false]) (by simp only [results, Tryz.results74]; go_simp) rfl ?_
        exact ExP.none_ (w1 := w) HG5.out (five_bel HP4.out.1 (by omega) _ _ _ _ _)
end Go.Proofs.YtgolomgmnanbpaaGreatDoor
namespace Go.Proofs.YtgolomgmnanbpaaGreatDoor
set_option maxHeartbeats 4000000 in
theorem Blk.set8C {w : World} {g : Nat} {t : TypeId} {c0 c1 c2 c3 c4 c5 c6 c7 : Value} (h : Blk w g t #[c0, c1, c2, c3, c4, c5, c6, c7]) (x0 x1 x2 x3 x4 x5 x6 x7 : Value) : Blk (w.setCells g 0 [x0, x1, x2, x3, x4, x5, x6, x7]) g t #[x0, x1, x2, x3, x4, x5, x6, x7] :=
  (((((((h.set_ 0 x0).set_ 1 x1).set_ 2 x2).set_ 3 x3).set_ 4 x4).set_ 5 x5).set_ 6 x6).set_ 7 x7
end Go.Proofs.YtgolomgmnanbpaaGreatDoor
namespace Go.Proofs.YtgolomgmnanbpaaGreatDoor
set_option linter.unusedVariables false
set_option linter.unusedSimpArgs false
open Go.RowKit
attribute [local go_sem] run_index_arr run_part_agg run_part_one run_field_agg
def cutE : Nat → EJ → EJ
  | 0, .mk k v s _ => .mk k v s []
  | r + 1, .mk k v s kids => .mk k v s ((kids.take 6).map (cutE r))
def CutP (x : EJ) (F : Nat → Prop) (w : World) (e : Ending) (w' : World) : Prop := ∃ cs : List Value, e = .returned (.agg cs.toArray) ∧ ER w' (FN F w) cs x ∧ Below w.heap.size w w'
theorem ers_growG {w w2 : World} {G : Nat → Prop} {row row2 : Value} {css : List (List Value)} {kids : List EJ} (h : ERs w (FO G row) css kids) (hg : w.grownBy w2 row.ownBlock) (ho : row2.ownBlock = row.ownBlock ∨ row2.ownBlock = some w.heap.size) :
    ERs w2 (FO G row2) css kids := by
  refine RR.imp h fun c x hc => ?_
  have h1 : ER w (fun b => FO G row b ∧ b < w.heap.size) c x := hc.mono fun b hb hF => ⟨hF, hb⟩
  have h2 : ER w2 (fun b => FO G row b ∧ b < w.heap.size) c x := h1.keep (KeepF.of_grown hg fun b hb => hb.1.2)
  refine h2.mono fun b _ hF => ⟨hF.1.1, fun e => ?_⟩
  rcases ho with ho | ho
  · exact hF.1.2 (by rw [e, ho])
  · rw [ho] at e
    have : b = w.heap.size := by injection e
    omega
theorem infoExp9 : (Tryz.prog.info? 28).map (fun i => (i.zero, i.size, i.bytes)) = some (some (.agg #[.int .i64 0, .int .i64 0, .int .i64 0, .string ⟨#[]⟩, .slice none 0 0, .slice none 0 0, .string ⟨#[]⟩, .slice none 0 0]), 8, 128) := by kernel_rfl
set_option maxRecDepth 100000 in
set_option maxHeartbeats 16000000 in
theorem lExprC (F : Nat → Prop) : ∀ (room : Nat) (x : EJ) (cs : List Value) (q : Int) (w : World), q = room → (∀ b, F b → b < w.heap.size) → ER w F cs x → camE x → room ≤ 14 →
    Calls Tryz.prog 11 #[.agg cs.toArray, .int .i64 q] w (CutP (cutE room x) F w) := by
  intro room
  induction room with
  | zero =>
    rintro ⟨k, v, s, kids⟩ cs q w rfl hF hx hcx hroom
    obtain ⟨k1, n1, s1, A1, na1, ca1, B1, nb1, cb1, A, ca, css0, rfl, hv, _⟩ := hx.out
    have HFF := Lib.hid hF
    have HVV := Lib.hid hv
    have HH0 := Lib.hid (((Held.nil w).push 28 #[.int .i64 k, .int .i64 k1, .int .i64 n1, .string s1, .slice A1 na1 ca1, .slice B1 nb1 cb1, .string ⟨s.toArray⟩, .slice A kids.length ca] (g := w.heap.size) rfl).push 28 #[.int .i64 0, .int .i64 0, .int .i64 0, .string ⟨#[]⟩, .slice none 0 0, .slice none 0 0, .string ⟨#[]⟩, .slice none 0 0] (g := w.heap.size + 1) (by simp))
    obtain ⟨W0, hW0⟩ : ∃ W0, (w.alloc (.cells #[.int .i64 k, .int .i64 k1, .int .i64 n1, .string s1, .slice A1 na1 ca1, .slice B1 nb1 cb1, .string ⟨s.toArray⟩, .slice A kids.length ca] 28)).alloc (.cells #[.int .i64 0, .int .i64 0, .int .i64 0, .string ⟨#[]⟩, .slice none 0 0, .slice none 0 0, .string ⟨#[]⟩, .slice none 0 0] 28) = W0 := ⟨_, rfl⟩
    have HHW := Lib.hid (show Held [(w.heap.size + 1, 28, #[.int .i64 0, .int .i64 0, .int .i64 0, .string ⟨#[]⟩, .slice none 0 0, .slice none 0 0, .string ⟨#[]⟩, .slice none 0 0]), (w.heap.size, 28, #[.int .i64 k, .int .i64 k1, .int .i64 n1, .string s1, .slice A1 na1 ca1, .slice B1 nb1 cb1, .string ⟨s.toArray⟩, .slice A kids.length ca])] w W0 by rw [← hW0]; exact HH0.out)
    have HW0 := Lib.hid hW0
    clear hF hx hcx hv hW0 HH0
    go_enter Tryz.func11, Tryz.ntmps11
    go_upto_region 1 with fail
    rw [HW0.out]
    obtain ⟨c0, f0, l0⟩ := HHW.out.b1.rules
    have hne : w.heap.size ≠ w.heap.size + 1 := by omega
    have HB0 := Lib.hid (show Blk (W0.setCell ⟨w.heap.size, 7, none⟩ (.slice none 0 0)) w.heap.size 28 #[.int .i64 k, .int .i64 k1, .int .i64 n1, .string s1, .slice A1 na1 ca1, .slice B1 nb1 cb1, .string ⟨s.toArray⟩, .slice none 0 0] from HHW.out.b1.set_ 7 _)
    have HB1 := Lib.hid (show Blk (W0.setCell ⟨w.heap.size, 7, none⟩ (.slice none 0 0)) (w.heap.size + 1) 28 #[.int .i64 0, .int .i64 0, .int .i64 0, .string ⟨#[]⟩, .slice none 0 0, .slice none 0 0, .string ⟨#[]⟩, .slice none 0 0] from Blk.far HHW.out.b0 (by show w.heap.size + 1 ≠ w.heap.size; omega) _)
    have HL := Lib.hid (show Below w.heap.size w (W0.setCell ⟨w.heap.size, 7, none⟩ (.slice none 0 0)) from HHW.out.1.setCell (p := ⟨w.heap.size, 7, none⟩) (Nat.le_refl _) _)
    have HKF := Lib.hid (show KeepF (fun b => F b ∨ w.heap.size + 2 ≤ b) W0 (W0.setCell ⟨w.heap.size, 7, none⟩ (.slice none 0 0)) from KeepF.set KeepF.refl (fun b hb => by rcases hb with hb | hb; exact Nat.ne_of_lt (HFF.out b hb); omega) 7 _)
    obtain ⟨WF, hWF⟩ : ∃ W', W0.setCell ⟨w.heap.size, 7, none⟩ (.slice none 0 0) = W' := ⟨_, rfl⟩
    rw [hWF] at HB0 HB1 HL HKF
    have HWF := Lib.hid hWF
    clear hWF
    go_upto_region 3 with fail
    rw [HWF.out]
    clear HWF c0 f0 l0
    obtain ⟨c0, f0, l0⟩ := HB0.out.rules
    first | (refine wpList_store_mid rfl 28 (.tmp 4) (.tmp 11) rfl (w.heap.size + 1) 0 #[.int .i64 k, .int .i64 k1, .int .i64 n1, .string s1, .slice A1 na1 ca1, .slice B1 nb1 cb1, .string ⟨s.toArray⟩, .slice none 0 0] rfl rfl HB1.out.there (by kernel_rfl) (by first | kernel_rfl | simp [Value.oneCell']) ?_) | (go_step; refine wpList_store_mid rfl 28 (.tmp 4) (.tmp 11) rfl (w.heap.size + 1) 0 #[.int .i64 k, .int .i64 k1, .int .i64 n1, .string s1, .slice A1 na1 ca1, .slice B1 nb1 cb1, .string ⟨s.toArray⟩, .slice none 0 0] rfl rfl HB1.out.there (by kernel_rfl) (by first | kernel_rfl | simp [Value.oneCell']) ?_) | (go_step; go_step; refine wpList_store_mid rfl 28 (.tmp 4) (.tmp 11) rfl (w.heap.size + 1) 0 #[.int .i64 k, .int .i64 k1, .int .i64 n1, .string s1, .slice A1 na1 ca1, .slice B1 nb1 cb1, .string ⟨s.toArray⟩, .slice none 0 0] rfl rfl HB1.out.there (by kernel_rfl) (by first | kernel_rfl | simp [Value.oneCell']) ?_) | (go_step; go_step; go_step; refine wpList_store_mid rfl 28 (.tmp 4) (.tmp 11) rfl (w.heap.size + 1) 0 #[.int .i64 k, .int .i64 k1, .int .i64 n1, .string s1, .slice A1 na1 ca1, .slice B1 nb1 cb1, .string ⟨s.toArray⟩, .slice none 0 0] rfl rfl HB1.out.there (by kernel_rfl) (by first | kernel_rfl | simp [Value.oneCell']) ?_) | (go_step; go_step; go_step; go_step; refine wpList_store_mid rfl 28 (.tmp 4) (.tmp 11) rfl (w.heap.size + 1) 0 #[.int .i64 k, .int .i64 k1, .int .i64 n1, .string s1, .slice A1 na1 ca1, .slice B1 nb1 cb1, .string ⟨s.toArray⟩, .slice none 0 0] rfl rfl HB1.out.there (by kernel_rfl) (by first | kernel_rfl | simp [Value.oneCell']) ?_)
    have HB2 := Lib.hid (HB1.out.set8C (.int .i64 k) (.int .i64 k1) (.int .i64 n1) (.string s1) (.slice A1 na1 ca1) (.slice B1 nb1 cb1) (.string ⟨s.toArray⟩) (.slice none 0 0))
    have HL2 := Lib.hid (bel_setC (B := w.heap.size) (b := w.heap.size + 1) (by omega) [.int .i64 k, .int .i64 k1, .int .i64 n1, .string s1, .slice A1 na1 ca1, .slice B1 nb1 cb1, .string ⟨s.toArray⟩, .slice none 0 0] 0 HL.out)
    have HKF2 := Lib.hid (HKF.out.trans (KeepF.setC (F := fun b => F b ∨ w.heap.size + 2 ≤ b) (fun b hb => by rcases hb with hb | hb; exact Nat.ne_of_lt (Nat.lt_succ_of_lt (HFF.out b hb)); omega) [.int .i64 k, .int .i64 k1, .int .i64 n1, .string s1, .slice A1 na1 ca1, .slice B1 nb1 cb1, .string ⟨s.toArray⟩, .slice none 0 0] 0 KeepF.refl))
    obtain ⟨WG, hWG⟩ : ∃ W', WF.setCells (w.heap.size + 1) 0 [.int .i64 k, .int .i64 k1, .int .i64 n1, .string s1, .slice A1 na1 ca1, .slice B1 nb1 cb1, .string ⟨s.toArray⟩, .slice none 0 0] = W' := ⟨_, rfl⟩
    rw [hWG] at HB2 HL2 HKF2
    simp only []
    rw [hWG]
    clear hWG c0 f0 l0 HB0 HB1 HL HKF
    obtain ⟨c0, f0, l0⟩ := HB2.out.rules
    go_wp2
    refine bodyPost_ret (v := .agg #[.int .i64 k, .int .i64 k1, .int .i64 n1, .string s1, .slice A1 na1 ca1, .slice B1 nb1 cb1, .string ⟨s.toArray⟩, .slice none 0 0]) (by simp only [results, Tryz.results11]; go_simp) rfl ?_
    refine ⟨[.int .i64 k, .int .i64 k1, .int .i64 n1, .string s1, .slice A1 na1 ca1, .slice B1 nb1 cb1, .string ⟨s.toArray⟩, .slice none 0 0], rfl, ?_, HL2.out⟩
    have hvv := (HVV.out.keep (KeepF.of_below HL2.out)).mono (F' := FN F w) fun b _ h => .inl h
    exact ER.leaf k s hvv
  | succ r ih =>
    rintro ⟨k, v, s, kids⟩ cs q w hq hF hx hcx hroom
    obtain ⟨k1, n1, s1, A1, na1, ca1, B1, nb1, cb1, A, ca, css0, rfl, hv, h1, h2, h3, h4⟩ := hx.out
    unfold camE at hcx
    obtain ⟨_, _, _, hkl, hkc⟩ := hcx
    have HCK := Lib.hid (camEL_iff.1 hkc)
    have HFF := Lib.hid hF
    have HVV := Lib.hid hv
    have HKD := Lib.hid (And.intro h1 h4)
    have HIH := Lib.hid (show ∀ (x : EJ) (cs : List Value) (w : World), (∀ b, F b → b < w.heap.size) → ER w F cs x → camE x → Calls Tryz.prog 11 #[.agg cs.toArray, .int .i64 (q - 1)] w (CutP (cutE r x) F w) from
      fun x cs w h1 h2 h3 => ih x cs (q - 1) w (by omega) h1 h2 h3 (by omega))
    have hq1 : 1 ≤ q := by omega
    have hq14 : q ≤ 14 := by omega
    have hq0 : (q == 0) = false := by simp; omega
    have hq0' : ¬ q = 0 := by omega
    have HH0 := Lib.hid (((Held.nil w).push 28 #[.int .i64 k, .int .i64 k1, .int .i64 n1, .string s1, .slice A1 na1 ca1, .slice B1 nb1 cb1, .string ⟨s.toArray⟩, .slice A kids.length ca] (g := w.heap.size) rfl).push 28 #[.int .i64 0, .int .i64 0, .int .i64 0, .string ⟨#[]⟩, .slice none 0 0, .slice none 0 0, .string ⟨#[]⟩, .slice none 0 0] (g := w.heap.size + 1) (by simp))
    obtain ⟨i0, hi, hz0, hz1, hz2⟩ := info_parts infoExp9
    have HI := Lib.hid hi
    obtain ⟨nr, hnr⟩ : ∃ n, kids.length = n := ⟨_, rfl⟩
    have HNR := Lib.hid hnr
    rw [hnr] at hkl h2 HH0 ⊢
    obtain ⟨m, hm⟩ : ∃ m, min nr 6 = m := ⟨_, rfl⟩
    have hm6 : m ≤ 6 := by omega
    have hmn : m ≤ nr := by omega
    have HM := Lib.hid hm
    have HHE := Lib.hid (show min (nr : Int) 6 = (m : Int) by omega)
    have hif : (if (6 : Int) < (nr : Int) then (6 : Int) else (nr : Int)) = (m : Int) := by split <;> omega
    have HRO := Lib.hid (And.intro hq hroom)
    clear hF hx hv h1 h4 hkc hi hnr hq hroom ih
    obtain ⟨c0, f0, l0⟩ := HH0.out.b1.rules
    go_enter Tryz.func11, Tryz.ntmps11
    go_upto_region 5 with fail
    go_wp2
    try rw [HHE.out]
    try rw [Int.toNat_natCast]
    try rw [show max (m : Int) 0 = (m : Int) by omega]
    clear hif
    clear c0 f0 l0
    go_loopg [5, 20] m (fun gk s5 s20 wr => ∃ (i : Nat) (row : Value) (css : List (List Value)), row = s5 ∧ i ≤ m ∧ gk = m - i ∧ s20 = .int .i64 (i : Int) ∧
      Hid (Held [(w.heap.size + 1, 28, #[.int .i64 0, .int .i64 0, .int .i64 0, .string ⟨#[]⟩, .slice none 0 0, .slice none 0 0, .string ⟨#[]⟩, .slice none 0 0]), (w.heap.size, 28, #[.int .i64 k, .int .i64 k1, .int .i64 n1, .string s1, .slice A1 na1 ca1, .slice B1 nb1 cb1, .string ⟨s.toArray⟩, .slice A nr ca])] w wr) ∧ Hid (wr.ownsRow (w.heap.size + 2) 28 8 row i css.flatten) ∧ Hid (ERs wr (FO (fun b => F b ∨ w.heap.size + 2 ≤ b) row) css ((kids.take i).map (cutE r))))
    case atStart => exact ⟨0, _, [], rfl, Nat.zero_le _, by go_num, rfl, HH0, Lib.hid (World.ownsRow_nil _ _ _ _), Lib.hid (by rw [List.take_zero]; exact RR.nil)⟩
    case round =>
      obtain ⟨i, row, css, rfl, him, hgk, rfl, HH, HO, HV⟩ := hrel
      have HGK := Lib.hid hgk
      clear hgk HH0
      by_cases hlt : i < m
      · obtain ⟨x, hx⟩ : ∃ x, kids[i]? = some x := ⟨_, List.getElem?_eq_getElem (by rw [HNR.out]; omega)⟩
        have hxm := List.mem_of_getElem? hx
        obtain ⟨b, o, k', k1', n1', s1', A1', na1', ca1', B1', nb1', cb1', s', A2', n2', ca2', rfl, hb, hER, hz⟩ := kid_cellsE HKD.out.1 HKD.out.2 hx
        obtain ⟨z0, z1, z2, z3, z4, z5, z6, z7⟩ := hz wr HH.out.1
        have HTK := Lib.hid (show (kids.take (i + 1)).map (cutE r) = (kids.take i).map (cutE r) ++ [cutE r x] by rw [List.take_add_one, hx, List.map_append]; rfl)
        have HE := Lib.hid (fun (W : World) (h : Below w.heap.size w W) => HIH.out x _ W (fun b hb => Nat.lt_of_lt_of_le (HFF.out b hb) h.size) (hER.bel h) (HCK.out x hxm))
        have hlb : b < wr.heap.size := Nat.lt_of_lt_of_le hb HH.out.1.size
        have HP := Lib.hid ((HH.out).push 28 #[.int .i64 k', .int .i64 k1', .int .i64 n1', .string s1', .slice A1' na1' ca1', .slice B1' nb1' cb1', .string s', .slice A2' n2' ca2'] (g := wr.heap.size) rfl)
        have HO1 := Lib.hid (HO.out.alloc (.cells #[.int .i64 k', .int .i64 k1', .int .i64 n1', .string s1', .slice A1' na1' ca1', .slice B1' nb1' cb1', .string s', .slice A2' n2' ca2'] 28))
        have HV1 := Lib.hid (RR.imp HV.out fun c y hc => hc.bel ((Below.refl _ wr).alloc (Nat.le_refl _) (.cells #[.int .i64 k', .int .i64 k1', .int .i64 n1', .string s1', .slice A1' na1' ca1', .slice B1' nb1' cb1', .string s', .slice A2' n2' ca2'] 28)))
        have hwr2 : w.heap.size + 2 ≤ wr.heap.size := HH.out.b0.lt
        clear hz hER hx hxm hb
        go_wp2_with fail
        refine (HE.out _ HP.out.1).mono ?_
        rintro e w4 ⟨cs4, rfl, hv4, hb4⟩
        clear z0 z1 z2 z3 z4 z5 z6 z7
        have HV4 := Lib.hid hv4
        obtain ⟨k9, k19, n19, s19, A19, na19, ca19, B19, nb19, cb19, s9, A29, n29, ca29, rfl⟩ := hv4.form
        have hsz : wr.heap.size < w4.heap.size := by have := hb4.size; simp at this; omega
        have HP4 := Lib.hid (HP.out.keep hb4)
        have HO4 := Lib.hid (ownBel HO1.out hb4)
        have HV5 := Lib.hid (RR.imp HV1.out fun c y hc => hc.bel hb4)
        have HRW := Lib.hid (fun (j : Nat) (e : row.ownBlock = some j) => HO.out.lt j e)
        have hO6 := Lib.hid (HO4.out.alloc (.cells #[.int .i64 k9, .int .i64 k19, .int .i64 n19, .string s19, .slice A19 na19 ca19, .slice B19 nb19 cb19, .string s9, .slice A29 n29 ca29] 28))
        have hR6 := Lib.hid (Rd.of_blk (Blk.new w4 28 #[.int .i64 k9, .int .i64 k19, .int .i64 n19, .string s19, .slice A19 na19 ca19, .slice B19 nb19 cb19, .string s9, .slice A29 n29 ca29]))
        have H1C := Lib.hid (show ∀ u ∈ ([.int .i64 k9, .int .i64 k19, .int .i64 n19, .string s19, .slice A19 na19 ca19, .slice B19 nb19 cb19, .string s9, .slice A29 n29 ca29] : List Value), u.oneCell' = true from HV4.out.one)
        have HBS := Lib.hid (show w.heap.size + 2 ≤ (w4.alloc (.cells #[.int .i64 k9, .int .i64 k19, .int .i64 n19, .string s19, .slice A19 na19 ca19, .slice B19 nb19 cb19, .string s9, .slice A29 n29 ca29] 28)).heap.size by rw [World.size_alloc]; omega)
        clear hv4 hb4
        go_wp2_with (at_builtin; refine wpList_append_rd _ rfl _ _ 26 rfl (w.heap.size + 2) 28 i0 _ 8 128 Tryz.underlying26 HI.out hz0 hz1 hz2 rfl (by decide) row i css.flatten rfl hO6.out (some ⟨w4.heap.size, 0, none⟩) 1 1 (fun h => by cases h) [.int .i64 k9, .int .i64 k19, .int .i64 n19, .string s19, .slice A19 na19 ca19, .slice B19 nb19 cb19, .string s9, .slice A29 n29 ca29] rfl rfl hR6.out H1C.out (by unfold maxLen; omega) (by omega) HBS.out ?_; intro row2 w6 hown6 hgr6 hob6)
        have hHH : Held [(w.heap.size + 1, 28, #[.int .i64 0, .int .i64 0, .int .i64 0, .string ⟨#[]⟩, .slice none 0 0, .slice none 0 0, .string ⟨#[]⟩, .slice none 0 0]), (w.heap.size, 28, #[.int .i64 k, .int .i64 k1, .int .i64 n1, .string s1, .slice A1 na1 ca1, .slice B1 nb1 cb1, .string ⟨s.toArray⟩, .slice (some ⟨b, o, none⟩) nr ca])] w w6 := by
          refine ((HP4.out.pop).alloc _).grown hgr6 (fun j e => by have := HRW.out j e; omega) (fun y hy e => ?_)
          simp only [List.mem_cons, List.not_mem_nil, or_false] at hy
          rcases hy with rfl | rfl
          · have := HRW.out _ e.symm; omega
          · have := HRW.out _ e.symm; omega
        have hVV : ERs w6 (FO (fun b => F b ∨ w.heap.size + 2 ≤ b) row2) (css ++ [([.int .i64 k9, .int .i64 k19, .int .i64 n19, .string s19, .slice A19 na19 ca19, .slice B19 nb19 cb19, .string s9, .slice A29 n29 ca29] : List Value)]) ((kids.take (i + 1)).map (cutE r)) := by
          rw [HTK.out]
          refine ers_growG ?_ hgr6 hob6
          refine (RR.imp HV5.out fun c y hc => hc.bel ((Below.refl _ _).alloc (Nat.le_refl _) _)).snoc ((HV4.out.bel ((Below.refl _ _).alloc (Nat.le_refl _) _)).mono fun b' _ hb' => ?_)
          rcases hb' with hb' | hb'
          · exact ⟨.inl hb', fun e => by have := HRW.out _ e.symm; have := HFF.out _ hb'; omega⟩
          · simp at hb'
            exact ⟨.inr (by omega), fun e => by have := HRW.out _ e.symm; omega⟩
        have hOO : w6.ownsRow (w.heap.size + 2) 28 8 row2 (i + 1) (css ++ [([.int .i64 k9, .int .i64 k19, .int .i64 n19, .string s19, .slice A19 na19 ca19, .slice B19 nb19 cb19, .string s9, .slice A29 n29 ca29] : List Value)]).flatten := by
          rw [List.flatten_append]; simpa using hown6
        have H9 := Lib.hid (And.intro hHH (And.intro hOO hVV))
        clear hHH hOO hVV hown6 hgr6 hob6
        go_wp2
        go_roundg (m - (i + 1))
        case measure => have := HGK.out; omega
        case rel => exact ⟨i + 1, row2, _, rfl, by omega, rfl, by go_num, Lib.hid H9.out.1, Lib.hid H9.out.2.1, Lib.hid H9.out.2.2⟩
      · obtain rfl : i = m := by omega
        obtain ⟨RA, rc, rfl, hrc, hrn, hrr⟩ := own_parts HO.out
        have HRR := Lib.hid (And.intro hrc (And.intro hrn hrr))
        clear hrc hrn hrr
        obtain ⟨c0, f0, l0⟩ := HH.out.b1.rules
        have hne : w.heap.size ≠ w.heap.size + 1 := by omega
        have HB0 := Lib.hid (show Blk (wr.setCell ⟨w.heap.size, 7, none⟩ (.slice RA i rc)) w.heap.size 28 #[.int .i64 k, .int .i64 k1, .int .i64 n1, .string s1, .slice A1 na1 ca1, .slice B1 nb1 cb1, .string ⟨s.toArray⟩, .slice RA i rc] from HH.out.b1.set_ 7 _)
        have HB1 := Lib.hid (show Blk (wr.setCell ⟨w.heap.size, 7, none⟩ (.slice RA i rc)) (w.heap.size + 1) 28 #[.int .i64 0, .int .i64 0, .int .i64 0, .string ⟨#[]⟩, .slice none 0 0, .slice none 0 0, .string ⟨#[]⟩, .slice none 0 0] from Blk.far HH.out.b0 (by show w.heap.size + 1 ≠ w.heap.size; omega) _)
        have HL := Lib.hid (show Below w.heap.size w (wr.setCell ⟨w.heap.size, 7, none⟩ (.slice RA i rc)) from HH.out.1.setCell (p := ⟨w.heap.size, 7, none⟩) (Nat.le_refl _) _)
        have HKF := Lib.hid (show KeepF (fun b => F b ∨ w.heap.size + 2 ≤ b) wr (wr.setCell ⟨w.heap.size, 7, none⟩ (.slice RA i rc)) from KeepF.set KeepF.refl (fun b hb => by rcases hb with hb | hb; exact Nat.ne_of_lt (HFF.out b hb); omega) 7 _)
        obtain ⟨WF, hWF⟩ : ∃ W', wr.setCell ⟨w.heap.size, 7, none⟩ (.slice RA i rc) = W' := ⟨_, rfl⟩
        rw [hWF] at HB0 HB1 HL HKF
        have HWF := Lib.hid hWF
        clear hWF
        go_upto_region 11 with fail
        rw [HWF.out]
        clear HWF c0 f0 l0
        obtain ⟨c0, f0, l0⟩ := HB0.out.rules
        first | (refine wpList_store_mid rfl 28 (.tmp 4) (.tmp 34) rfl (w.heap.size + 1) 0 #[.int .i64 k, .int .i64 k1, .int .i64 n1, .string s1, .slice A1 na1 ca1, .slice B1 nb1 cb1, .string ⟨s.toArray⟩, .slice RA i rc] rfl rfl HB1.out.there (by kernel_rfl) (by first | kernel_rfl | simp [Value.oneCell']) ?_) | (go_step; refine wpList_store_mid rfl 28 (.tmp 4) (.tmp 34) rfl (w.heap.size + 1) 0 #[.int .i64 k, .int .i64 k1, .int .i64 n1, .string s1, .slice A1 na1 ca1, .slice B1 nb1 cb1, .string ⟨s.toArray⟩, .slice RA i rc] rfl rfl HB1.out.there (by kernel_rfl) (by first | kernel_rfl | simp [Value.oneCell']) ?_) | (go_step; go_step; refine wpList_store_mid rfl 28 (.tmp 4) (.tmp 34) rfl (w.heap.size + 1) 0 #[.int .i64 k, .int .i64 k1, .int .i64 n1, .string s1, .slice A1 na1 ca1, .slice B1 nb1 cb1, .string ⟨s.toArray⟩, .slice RA i rc] rfl rfl HB1.out.there (by kernel_rfl) (by first | kernel_rfl | simp [Value.oneCell']) ?_) | (go_step; go_step; go_step; refine wpList_store_mid rfl 28 (.tmp 4) (.tmp 34) rfl (w.heap.size + 1) 0 #[.int .i64 k, .int .i64 k1, .int .i64 n1, .string s1, .slice A1 na1 ca1, .slice B1 nb1 cb1, .string ⟨s.toArray⟩, .slice RA i rc] rfl rfl HB1.out.there (by kernel_rfl) (by first | kernel_rfl | simp [Value.oneCell']) ?_) | (go_step; go_step; go_step; go_step; refine wpList_store_mid rfl 28 (.tmp 4) (.tmp 34) rfl (w.heap.size + 1) 0 #[.int .i64 k, .int .i64 k1, .int .i64 n1, .string s1, .slice A1 na1 ca1, .slice B1 nb1 cb1, .string ⟨s.toArray⟩, .slice RA i rc] rfl rfl HB1.out.there (by kernel_rfl) (by first | kernel_rfl | simp [Value.oneCell']) ?_)
        have HB2 := Lib.hid (HB1.out.set8C (.int .i64 k) (.int .i64 k1) (.int .i64 n1) (.string s1) (.slice A1 na1 ca1) (.slice B1 nb1 cb1) (.string ⟨s.toArray⟩) (.slice RA i rc))
        have HL2 := Lib.hid (bel_setC (B := w.heap.size) (b := w.heap.size + 1) (by omega) [.int .i64 k, .int .i64 k1, .int .i64 n1, .string s1, .slice A1 na1 ca1, .slice B1 nb1 cb1, .string ⟨s.toArray⟩, .slice RA i rc] 0 HL.out)
        have HKF2 := Lib.hid (HKF.out.trans (KeepF.setC (F := fun b => F b ∨ w.heap.size + 2 ≤ b) (fun b hb => by rcases hb with hb | hb; exact Nat.ne_of_lt (Nat.lt_succ_of_lt (HFF.out b hb)); omega) [.int .i64 k, .int .i64 k1, .int .i64 n1, .string s1, .slice A1 na1 ca1, .slice B1 nb1 cb1, .string ⟨s.toArray⟩, .slice RA i rc] 0 KeepF.refl))
        obtain ⟨WG, hWG⟩ : ∃ W', WF.setCells (w.heap.size + 1) 0 [.int .i64 k, .int .i64 k1, .int .i64 n1, .string s1, .slice A1 na1 ca1, .slice B1 nb1 cb1, .string ⟨s.toArray⟩, .slice RA i rc] = W' := ⟨_, rfl⟩
        rw [hWG] at HB2 HL2 HKF2
        simp only []
        rw [hWG]
        clear hWG c0 f0 l0 HB0 HB1 HL HKF
        obtain ⟨c0, f0, l0⟩ := HB2.out.rules
        go_wp2
        refine bodyPost_ret (v := .agg #[.int .i64 k, .int .i64 k1, .int .i64 n1, .string s1, .slice A1 na1 ca1, .slice B1 nb1 cb1, .string ⟨s.toArray⟩, .slice RA i rc]) (by simp only [results, Tryz.results11]; go_simp) rfl ?_
        refine ⟨[.int .i64 k, .int .i64 k1, .int .i64 n1, .string s1, .slice A1 na1 ca1, .slice B1 nb1 cb1, .string ⟨s.toArray⟩, .slice RA i rc], rfl, ?_, HL2.out⟩
        have hvv := (HVV.out.keep (KeepF.of_below HL2.out)).mono (F' := FN F w) fun b _ h => .inl h
        have hl : i = ((kids.take 6).map (cutE r)).length := by rw [List.length_map, List.length_take, HNR.out]; have := HM.out; omega
        have he : (kids.take i).map (cutE r) = (kids.take 6).map (cutE r) := by rw [← HM.out, ← HNR.out, Nat.min_comm, ← List.take_take, List.take_length]
        have hrr : ERs wr (FO (fun b => F b ∨ w.heap.size + 2 ≤ b) (.slice RA i rc)) css ((kids.take 6).map (cutE r)) := by rw [← he]; exact HV.out
        exact ER.into hvv (RR.imp hrr fun c y (hc : ER wr _ c y) => ((hc.mono (F' := fun b => F b ∨ w.heap.size + 2 ≤ b) fun b _ h => h.1).keep HKF2.out).mono fun b _ h => h.imp id fun h => by omega) hl (by rw [← hl]; exact HRR.out.1) HRR.out.2.1 (((HRR.out.2.2.mono (F' := fun b => F b ∨ w.heap.size + 2 ≤ b) fun b _ h => .inr h).keep HKF2.out).mono fun b _ h => h.imp id fun h => by omega)
end Go.Proofs.YtgolomgmnanbpaaGreatDoor
