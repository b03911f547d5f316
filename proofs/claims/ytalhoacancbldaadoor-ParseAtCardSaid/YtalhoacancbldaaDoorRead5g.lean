/- The walk of the reference davenportref05: object, given Read on what is left. -/
import Derived.Test.YtalhoacancbldaaDoorRead5f
namespace Go.Proofs.YtalhoacancbldaaDoor
set_option linter.unusedVariables false
set_option linter.unusedSimpArgs false
open Go.RowKit
attribute [local go_sem] run_index_arr run_part_agg run_part_one run_field_agg

/-- where the rows of an object's kids may lie: not in its own two rows -/
def FR2 (base : Nat) (rV rK : Value) (b : Nat) : Prop := base ≤ b ∧ some b ≠ rV.ownBlock ∧ some b ≠ rK.ownBlock
/-- the two rows of an object under way, and its kids -/
def OB (base : Nat) (rV rK : Value) (css : List (List Value)) (kids : List JV) (keys : List (List UInt8)) (wr : World) : Prop :=
  wr.ownsRow base 40 5 rV kids.length css.flatten ∧ wr.ownsRow base 9 1 rK keys.length (strV keys) ∧ VRs wr (FR2 base rV rK) css kids
section
variable {base : Nat} {rV rK : Value} {css : List (List Value)} {kids : List JV} {keys : List (List UInt8)} {wr wx : World}
theorem OB.keep (h : OB base rV rK css kids keys wr) (hb : Below wr.heap.size wr wx) : OB base rV rK css kids keys wx := ⟨ownBel h.1 hb, ownBel h.2.1 hb, h.2.2.below hb⟩
theorem OB.drew (h : OB base rV rK css kids keys wr) : OB base rV rK css kids keys wr.drew := ⟨h.1.drew, h.2.1.drew, h.2.2.keep ⟨Nat.le_refl _, fun _ _ _ => rfl⟩⟩
theorem OB.set (h : OB base rV rK css kids keys wr) {g : Nat} (hg : g < base) (i : Nat) (u : Value) : OB base rV rK css kids keys (wr.setCell ⟨g, i, none⟩ u) :=
  ⟨h.1.kept (gb_setCell (gb_refl wr (some g)) i u) (.inr (fun e => by have := (h.1.lt _ e).1; omega)), h.2.1.kept (gb_setCell (gb_refl wr (some g)) i u) (.inr (fun e => by have := (h.2.1.lt _ e).1; omega)),
    h.2.2.keep (KeepF.refl.set (fun b hb => by have := hb.1; omega) i u)⟩
theorem OB.growK {rK2 : Value} {s : List UInt8} {x : JV} {c : List Value} (h : OB base rV rK css kids keys wr) (hx : VR wr (FR2 base rV rK) c x) (hown : wx.ownsRow base 9 1 rK2 (keys.length + 1) (strV keys ++ [.string ⟨s.toArray⟩])) (hg : wr.grownBy wx rK.ownBlock)
    (ho : rK2.ownBlock = rK.ownBlock ∨ rK2.ownBlock = some wr.heap.size) : OB base rV rK2 css kids (keys ++ [s]) wx ∧ VR wx (FR2 base rV rK2) c x := by
  have hm : ∀ b, (FR2 base rV rK b ∧ b < wr.heap.size) → FR2 base rV rK2 b := fun b hb => ⟨hb.1.1, hb.1.2.1, fun e => by
    rcases ho with ho | ho
    · exact hb.1.2.2 (by rw [e, ho])
    · rw [ho] at e; injection e with e; omega⟩
  refine ⟨⟨h.1.kept hg (own_ne h.1 h.2.1 (by decide)), ?_, ?_⟩, ?_⟩
  · have e : strV (keys ++ [s]) = strV keys ++ [.string ⟨s.toArray⟩] := by simp [strV]
    rw [List.length_append, List.length_singleton, e]; exact hown
  · have h1 : VRs wr (fun b => FR2 base rV rK b ∧ b < wr.heap.size) css kids := h.2.2.mono fun b hb hF => ⟨hF, hb⟩
    exact (h1.keep (KeepF.of_grown hg fun b hb => hb.1.2.2)).mono fun b _ hF => hm b hF
  · have h1 : VR wr (fun b => FR2 base rV rK b ∧ b < wr.heap.size) c x := hx.mono fun b hb hF => ⟨hF, hb⟩
    exact (h1.keep (KeepF.of_grown hg fun b hb => hb.1.2.2)).mono fun b _ hF => hm b hF
theorem OB.growV {rV2 : Value} {x : JV} {c : List Value} (h : OB base rV rK css kids keys wr) (hx : VR wr (FR2 base rV rK) c x) (hown : wx.ownsRow base 40 5 rV2 (kids.length + 1) (css.flatten ++ c)) (hg : wr.grownBy wx rV.ownBlock)
    (ho : rV2.ownBlock = rV.ownBlock ∨ rV2.ownBlock = some wr.heap.size) : OB base rV2 rK (css ++ [c]) (kids ++ [x]) keys wx := by
  have hm : ∀ b, (FR2 base rV rK b ∧ b < wr.heap.size) → FR2 base rV2 rK b := fun b hb => ⟨hb.1.1, fun e => by
    rcases ho with ho | ho
    · exact hb.1.2.1 (by rw [e, ho])
    · rw [ho] at e; injection e with e; omega, hb.1.2.2⟩
  refine ⟨?_, h.2.1.kept hg (own_ne h.2.1 h.1 (by decide)), ?_⟩
  · have e : (css ++ [c]).flatten = css.flatten ++ c := by simp
    rw [List.length_append, List.length_singleton, e]; exact hown
  · have h1 : VRs wr (fun b => FR2 base rV rK b ∧ b < wr.heap.size) (css ++ [c]) (kids ++ [x]) := (h.2.2.snoc hx).mono fun b hb hF => ⟨hF, hb⟩
    exact (h1.keep (KeepF.of_grown hg fun b hb => hb.1.2.1)).mono fun b _ hF => hm b hF
theorem OB.fresh {w2 : World} {x : JV} {c : List Value} (h : OB base rV rK css kids keys wr) (hb : base ≤ wr.heap.size) (hx : VR w2 (fun b => wr.heap.size ≤ b) c x) : VR w2 (FR2 base rV rK) c x :=
  hx.mono fun b _ hb' => ⟨by omega, fun e => by have := (h.1.lt b e.symm).2; omega, fun e => by have := (h.2.1.lt b e.symm).2; omega⟩
end
theorem ob_vr {w : World} {base cV cK : Nat} {BV BK : Option Addr} {css : List (List Value)} {kids : List JV} {keys : List (List UInt8)} (h : OB base (.slice BV kids.length cV) (.slice BK keys.length cK) css kids keys w) :
    VR w (fun b => base ≤ b) [.int .i64 6, .int .i64 0, .string ⟨#[]⟩, .slice BV kids.length cV, .slice BK keys.length cK] (.mk 6 0 [] kids keys) := by
  obtain ⟨A, cap, e, h1, h2, h3⟩ := own_rdF (F := fun b => base ≤ b) h.1 (fun b hb => hb)
  obtain ⟨A', cap', e', h1', h2', h3'⟩ := own_rdF (F := fun b => base ≤ b) h.2.1 (fun b hb => hb)
  injection e with e1 _ e2
  injection e' with e1' _ e2'
  subst e1; subst e2; subst e1'; subst e2'
  exact VR.into 6 0 [] (h.2.2.mono fun b _ hb => hb.1) h1 h1' h2 h2' h3 h3' rfl rfl
theorem out_keep0 {W : World} {g : Nat} {F : Nat → Prop} (hF : ∀ b, F b → b ≠ g + 1 ∧ b ≠ g + 1 + 1) (a b c d e a' b' c' d' : Value) :
    KeepF F W (((((((((W.setCell ⟨g + 1, 0, none⟩ a).setCell ⟨g + 1, 1, none⟩ b).setCell ⟨g + 1, 2, none⟩ c).setCell ⟨g + 1, 3, none⟩ d).setCell ⟨g + 1, 4, none⟩ e).setCell
      ⟨g + 1 + 1, 0, none⟩ a').setCell ⟨g + 1 + 1, 1, none⟩ b').setCell ⟨g + 1 + 1, 2, none⟩ c').setCell ⟨g + 1 + 1, 3, none⟩ d') :=
  have h1 := fun b hb => (hF b hb).1
  have h2 := fun b hb => (hF b hb).2
  ((((((((KeepF.refl.set h1 0 a).set h1 1 b).set h1 2 c).set h1 3 d).set h1 4 e).set h2 0 a').set h2 1 b').set h2 2 c').set h2 3 d'
/-- what stands behind an object's first bracket -/
def ObS (l : List UInt8) (p m d : Nat) (r : RRes) : Prop := if l[p]? = some 125 then r = .ok (.mk 6 0 [] [] []) (p + 1) m else ObR l p m d [] [] r
def ObPost (A : Option Addr) (l : List UInt8) (cap a m d : Nat) (w : World) (e : Ending) (w' : World) : Prop :=
  ∃ r, ObS l (skipB l a) m d r ∧ Ans A l.length cap a w r e w'
set_option maxRecDepth 100000 in
set_option maxHeartbeats 8000000 in
theorem t5object_any (A : Option Addr) (l : List UInt8) (cap K a m d : Nat) (w : World) (hrd : RdAll A l cap K) (hr : Rd w A (byteV l)) (ha : a ≤ l.length) (hK : l.length - a < K) (hm : m ≤ 256) (hd : d ≤ 7) (hcap : l.length ≤ cap) (hlen : l.length ≤ 1048576) :
    Calls Tryd.prog 60 #[.agg (txC A l.length cap a m 0), .int .i64 d] w (ObPost A l cap a m d w) := by
  obtain ⟨iv, hiv, hv0, hv1, hv2⟩ := info_parts infoVal
  obtain ⟨is, his, hs0, hs1, hs2⟩ := info_parts infoStr
  have HRD := Lib.hid hrd
  have HR := Lib.hid hr
  have HX := Lib.hid (LB.new w A l.length cap a m #[.int .i64 6, .int .i64 0, .string ⟨#[]⟩, .slice none 0 0, .slice none 0 0])
  obtain ⟨p, hp⟩ : ∃ p, skipB l a = p := ⟨_, rfl⟩
  have hpl : p ≤ l.length := by rw [← hp]; exact skipB_le ha
  have hap : a ≤ p := by rw [← hp]; exact skipB_ge l a
  have hpass := fun W (h : Below w.heap.size w W) => t5pass_any A l cap a m W (HR.out.below h) ha hcap hlen
  rw [hp] at hpass
  have HPA := Lib.hid hpass
  have HS := Lib.hid (fun (c : UInt8) (cI : Int) (hcI : cI = c.toNat) (bb : Bool) (q : Nat) (k : Int) (hbb : decide (l[q]? = some c) = bb) W (hq : q ≤ l.length) (h : Below w.heap.size w W) => show Calls Tryd.prog 81 #[.agg (txC A l.length cap q k 0), .int .u8 cI] W fun e w' => e = .returned (.bool bb) ∧ Below W.heap.size W w' by
    subst hcI; subst hbb; exact t5sees_any A l cap q k 0 c W (HR.out.below h) hq hcap hlen)
  unfold ObPost
  rw [hp]
  have HP := Lib.hid hp
  have HIV := Lib.hid hiv
  have HIS := Lib.hid his
  obtain ⟨y1, y2, y3, y4, y5, y6, y7, y8, y9, y10, y11, y12⟩ := neqs w.heap.size
  clear hrd hr hpass hp hiv his
  go_enter Tryd.func60, Tryd.ntmps60
  go_wp2_with fail
  refine (HPA.out _ HX.out.1.2.2.2).mono ?_
  rintro e1 w1 ⟨rfl, hb1⟩
  have hx := HX.out.keep hb1
  clear HX hb1
  obtain ⟨⟨h10, h11, h12, h13⟩, ⟨f1, l1⟩, ⟨c2, f2, l2⟩, c3, f3, l3⟩ := hx.1.facts
  obtain ⟨c4, f4, l4⟩ := hx.2.rules
  have HX := Lib.hid (hx.put p m)
  clear hx
  go_wp2_with fail
  by_cases h93 : l[p]? = some 125
  · refine (HS.out 125 125 rfl true p m (decide_eq_true h93) _ hpl HX.out.1.2.2.2).mono ?_
    rintro e1 w2 ⟨rfl, hb2⟩
    have hx := HX.out.keep hb2
    clear HX h10 h11 h12 h13 f1 l1 c2 f2 l2 c3 f3 l3 c4 f4 l4 hb2
    obtain ⟨⟨h10, h11, h12, h13⟩, ⟨f1, l1⟩, ⟨c2, f2, l2⟩, c3, f3, l3⟩ := hx.1.facts
    have H93 := Lib.hid h93
    have hpn : p < l.length := get_lt h93
    have hx2 := hx.set1 ((p : Int) + 1)
    clear hx h93
    go_wp2
    obtain ⟨W3, hW3⟩ : ∃ W3, w2.setCell ⟨w.heap.size, 1, none⟩ (.int .i64 ((p : Int) + 1)) = W3 := ⟨_, rfl⟩
    rw [hW3] at hx2 ⊢
    have HX := Lib.hid hx2
    clear hW3 h10 h11 h12 h13 f1 l1 c2 f2 l2 c3 f3 l3 hx2
    obtain ⟨⟨h10, h11, h12, h13⟩, ⟨f1, l1⟩, ⟨c2, f2, l2⟩, c3, f3, l3⟩ := HX.out.1.facts
    obtain ⟨c4, f4, l4⟩ := HX.out.2.rules
    have k0 := c4 0
    have k1 := c4 1
    have k2 := c4 2
    have k3 := c4 3
    have k4 := c4 4
    simp at k0 k1 k2 k3 k4
    go_region_held3 (fun w' => w'.cell? ⟨w.heap.size, 0, none⟩ = some (.slice A l.length cap) ∧ w'.cell? ⟨w.heap.size, 1, none⟩ = some (.int .i64 ((p : Int) + 1)) ∧ w'.cell? ⟨w.heap.size, 2, none⟩ = some (.int .i64 m) ∧ w'.cell? ⟨w.heap.size, 3, none⟩ = some (.int .i64 0) ∧
      w'.cell? ⟨w.heap.size + 1 + 1 + 1, 0, none⟩ = some (.int .i64 6) ∧ w'.cell? ⟨w.heap.size + 1 + 1 + 1, 1, none⟩ = some (.int .i64 0) ∧ w'.cell? ⟨w.heap.size + 1 + 1 + 1, 2, none⟩ = some (.string ⟨#[]⟩) ∧ w'.cell? ⟨w.heap.size + 1 + 1 + 1, 3, none⟩ = some (.slice none 0 0) ∧ w'.cell? ⟨w.heap.size + 1 + 1 + 1, 4, none⟩ = some (.slice none 0 0)) (go_keep) (fail)
    all_goals
      go_wp2
      refine bodyPost_ret (v := .tuple #[.agg #[.int .i64 6, .int .i64 0, .string ⟨#[]⟩, .slice none 0 0, .slice none 0 0], .agg (txC A l.length cap ((p : Int) + 1) m 0)]) (by simp only [results, Tryd.results60]; go_simp) rfl ?_
      exact ⟨.ok (.mk 6 0 [] [] []) (p + 1) m, by unfold ObS; rw [if_pos H93.out], (HX.out.out _ _ _ _ _ _ _ _ _).drew, by omega, hpn, hm, _, rfl, VR.zeroK 6⟩
  · refine (HS.out 125 125 rfl false p m (decide_eq_false h93) _ hpl HX.out.1.2.2.2).mono ?_
    rintro e1 w2 ⟨rfl, hb2⟩
    have hx := HX.out.keep hb2
    clear HX h10 h11 h12 h13 f1 l1 c2 f2 l2 c3 f3 l3 c4 f4 l4 hb2
    have H93 := Lib.hid h93
    have HX := Lib.hid hx
    clear hx h93
    go_wp2
    go_loopg [7, 8, 9, 10] (l.length + 1 - p) (fun gk _ _ _ _ wr => ∃ (a' m' : Nat) (kids : List JV) (keys : List (List UInt8)) (css : List (List Value)) (BV BK : Option Addr) (cV cK : Nat), a' ≤ l.length ∧ p ≤ a' ∧ m' ≤ 256 ∧ kids.length ≤ a' ∧ keys.length = kids.length ∧ gk = l.length + 1 - a' ∧
      Hid (LB w A l.length cap a' m' #[.int .i64 6, .int .i64 0, .string ⟨#[]⟩, .slice BV kids.length cV, .slice BK keys.length cK] wr) ∧ Hid (OB (w.heap.size + 1 + 1 + 1 + 1) (.slice BV kids.length cV) (.slice BK keys.length cK) css kids keys wr) ∧
      Hid keys.Nodup ∧ Hid (∀ r, ObR l a' m' d keys kids r → ObS l p m d r))
    case atStart => exact ⟨p, m, [], [], [], none, none, 0, 0, hpl, Nat.le_refl _, hm, Nat.zero_le _, rfl, rfl, HX, Lib.hid ⟨World.ownsRow_nil _ _ _ _, World.ownsRow_nil _ _ _ _, VRs.nil⟩, Lib.hid List.nodup_nil, Lib.hid (fun r h => by unfold ObS; rw [if_neg H93.out]; exact h)⟩
    case round =>
      obtain ⟨a', m', kids, keys, css, BV, BK, cV, cK, hal, hpa, hm', hkl, hkk, hgk, HL, HO, HND, HC⟩ := hrel
      have HG := Lib.hid hgk
      have HKK := Lib.hid hkk
      clear hgk hkk HX
      obtain ⟨q0, hq0⟩ : ∃ q0, skipB l a' = q0 := ⟨_, rfl⟩
      have hq0l : q0 ≤ l.length := by rw [← hq0]; exact skipB_le hal
      have haq0 : a' ≤ q0 := by rw [← hq0]; exact skipB_ge l a'
      have HQ0 := Lib.hid hq0
      have hps := t5pass_any A l cap a' m' wr (HR.out.below HL.out.1.2.2.2) hal hcap hlen
      rw [hq0] at hps
      have HPS := Lib.hid hps
      clear hps hq0
      obtain ⟨⟨h10, h11, h12, h13⟩, ⟨f1, l1⟩, ⟨c2, f2, l2⟩, c3, f3, l3⟩ := HL.out.1.facts
      go_wp2_with fail
      refine HPS.out.mono ?_
      rintro e1 w3 ⟨rfl, hb3⟩
      have hx := HL.out.keep hb3
      have ho := HO.out.keep hb3
      clear h10 h11 h12 h13 f1 l1 c2 f2 l2 c3 f3 l3 HL HO hb3 HPS
      obtain ⟨⟨h10, h11, h12, h13⟩, ⟨f1, l1⟩, ⟨c2, f2, l2⟩, c3, f3, l3⟩ := hx.1.facts
      have hx2 := hx.put (q0 : Int) m'
      have ho2 := ((((ho.set (g := w.heap.size) (by omega) 0 (.slice A l.length cap)).set (g := w.heap.size) (by omega) 1 (.int .i64 q0)).set (g := w.heap.size) (by omega) 2 (.int .i64 m')).set (g := w.heap.size) (by omega) 3 (.int .i64 0))
      clear hx ho
      go_wp2_with fail
      obtain ⟨W9, hW9⟩ : ∃ W9, (((w3.setCell ⟨w.heap.size, 0, none⟩ (.slice A l.length cap)).setCell ⟨w.heap.size, 1, none⟩ (.int .i64 q0)).setCell ⟨w.heap.size, 2, none⟩ (.int .i64 m')).setCell ⟨w.heap.size, 3, none⟩ (.int .i64 0) = W9 := ⟨_, rfl⟩
      rw [hW9] at hx2 ho2 ⊢
      have HX := Lib.hid hx2
      have HO := Lib.hid ho2
      clear hW9 hx2 ho2 h10 h11 h12 h13 f1 l1 c2 f2 l2 c3 f3 l3
      by_cases h34 : l[q0]? = some 34
      · refine (HS.out 34 34 rfl true q0 m' (decide_eq_true h34) _ (by omega) HX.out.1.2.2.2).mono ?_
        rintro e1 w4 ⟨rfl, hb4⟩
        have hx := HX.out.keep hb4
        have ho := HO.out.keep hb4
        have H34 := Lib.hid h34
        have hq := fun W (h : Below w.heap.size w W) => t5quoted_any A l cap q0 m' W (HR.out.below h) h34 hcap hlen
        have HQT := Lib.hid hq
        have hq0n : q0 < l.length := get_lt h34
        clear HX HO hb4 h34 hq
        obtain ⟨⟨h10, h11, h12, h13⟩, ⟨f1, l1⟩, ⟨c2, f2, l2⟩, c3, f3, l3⟩ := hx.1.facts
        have HX := Lib.hid hx
        have HO := Lib.hid ho
        clear hx ho
        go_wp2_with fail
        refine (HQT.out _ HX.out.1.2.2.2).mono ?_
        rintro e1 w5 ⟨hqt, hb5⟩
        have hx := HX.out.keep hb5
        have ho := HO.out.keep hb5
        clear h10 h11 h12 h13 f1 l1 c2 f2 l2 c3 f3 l3 HX HO hb5 HQT
        obtain ⟨⟨s, pl, er⟩, hqr⟩ : ∃ r, qRead l q0 = r := ⟨_, rfl⟩
        have HQR := Lib.hid hqr
        unfold Qt5 at hqt
        rw [hqr] at hqt
        simp only at hqt
        have hsz5 : w.heap.size + 1 + 1 + 1 + 1 ≤ w5.heap.size := hx.2.lt
        have HL5 := Lib.hid hx
        have HO5 := Lib.hid ho
        clear hx ho
        obtain ⟨z1, z2, z3, z4, z5, z6, z7, z8⟩ := neqs2 hsz5
        by_cases h0 : er = 0
        · subst h0
          rw [if_pos rfl] at hqt
          subst hqt
          have hqok := qRead_ok (l := l) (a := q0) (by rw [hqr])
          rw [hqr] at hqok
          obtain ⟨c, hc1, hc2, hc3⟩ := hqok
          simp only at hc1
          subst hc1
          clear hqr
          obtain ⟨W4, hW4⟩ : ∃ W4, w5.alloc (.cells (txC A l.length cap c m' 0) 49) = W4 := ⟨_, rfl⟩
          have hb54 : Below w5.heap.size w5 W4 := by rw [← hW4]; exact (Below.refl _ _).alloc (Nat.le_refl _) _
          have HL4 := Lib.hid (HL5.out.keep hb54)
          have HO4 := Lib.hid (HO5.out.keep hb54)
          have HB8 : Hid (Blk W4 w5.heap.size 49 (txC A l.length cap c m' 0)) := Lib.hid (by rw [← hW4]; exact Blk.new _ _ _)
          have HW4 := Lib.hid hW4
          clear hb54 hW4 HL5 HO5
          go_upto_region 12 with (fail)
          rw [HW4.out]
          clear HW4
          obtain ⟨c4, f4, l4⟩ := HL4.out.2.rules
          obtain ⟨BK', cK', q1, q2, q3⟩ := Rd.of_own HO4.out.2.1
          injection q1 with q4 _ q5
          subst q4; subst q5
          have HHAS := Lib.hid (t5has_any BK cK keys s W4 q3 q2 (by rw [HKK.out]; omega))
          clear q2 q3
          go_wp2_with fail
          by_cases hin : s ∈ keys
          · have hh := HHAS.out
            rw [decide_eq_true hin] at hh
            refine hh.mono ?_
            rintro e1 w6 ⟨rfl, rfl⟩
            have HIN := Lib.hid hin
            clear hh HHAS hin c4 f4 l4
            obtain ⟨⟨h10, h11, h12, h13⟩, ⟨f1, l1⟩, ⟨c2, f2, l2⟩, c3, f3, l3⟩ := HL4.out.1.facts
            have HX := HL4
            clear HL4
            obtain ⟨fp, fe, hf⟩ : ∃ fp fe, failF l q0 141 = (fp, fe) := ⟨_, _, rfl⟩
            have hfl := fun W => t5fail_any A l cap q0 m' 0 141 q0 W (by omega) hlen
            rw [hf] at hfl
            have HFL := Lib.hid hfl
            have hfe : fe ≠ 0 := by have := failF_ne (l := l) (p := ((q0 : Nat) : Int)) (e := 141) (by decide); rw [hf] at this; exact this
            have HF := Lib.hid hf
            clear hfl hf
            go_wp2_with fail
            refine (HFL.out _).mono ?_
            rintro e1 w12 ⟨rfl, hb12⟩
            have hx := HX.out.keep hb12
            clear h10 h11 h12 h13 f1 l1 c2 f2 l2 c3 f3 l3 HX hb12
            obtain ⟨⟨h10, h11, h12, h13⟩, ⟨f1, l1⟩, ⟨c2, f2, l2⟩, c3, f3, l3⟩ := hx.1.facts
            have HX := Lib.hid hx
            clear hx
            go_wp2
            refine bodyPost_ret (v := .tuple #[.agg zVal, .agg (txC A l.length cap fp m' fe)]) (by simp only [results, Tryd.results60]; go_simp) rfl ?_
            refine ⟨.err fp fe, HC.out _ ?_, HX.out.out _ _ _ _ _ _ _ _ _, hfe, m', rfl⟩
            have h := ObR.double (l := l) (a := a') (m := m') (d := d) (keys := keys) (kids := kids) (by rw [HQ0.out]; exact H34.out) (by rw [HQ0.out, HQR.out]) (by rw [HQ0.out, HQR.out]; exact HIN.out)
            rw [HQ0.out] at h
            have hff := HF.out
            unfold failF at hff
            rw [if_neg (show ¬ ((141 : Int) = 7 ∧ (l.length : Int) ≤ (q0 : Int)) from fun h => absurd h.1 (by decide))] at hff
            simp only [Prod.mk.injEq] at hff
            rw [← hff.1, ← hff.2]
            exact h

          · have hh := HHAS.out
            rw [decide_eq_false hin] at hh
            refine hh.mono ?_
            rintro e1 w6 ⟨rfl, rfl⟩
            have HIN := Lib.hid hin
            clear hh HHAS hin c4 f4 l4
            obtain ⟨c', hc'⟩ : ∃ c', skipB l c = c' := ⟨_, rfl⟩
            have hcl' : c' ≤ l.length := by rw [← hc']; exact skipB_le hc3
            have hcc' : c ≤ c' := by rw [← hc']; exact skipB_ge l c
            have HC' := Lib.hid hc'
            have hps := t5pass_any A l cap c m' W4 (HR.out.below HL4.out.1.2.2.2) hc3 hcap hlen
            rw [hc'] at hps
            have HPS := Lib.hid hps
            clear hps hc'
            obtain ⟨j10, j11, j12, j13⟩ := TB.cells HB8.out
            go_wp2_with fail
            refine HPS.out.mono ?_
            rintro e1 w6 ⟨rfl, hb6⟩
            have hx := HL4.out.keep hb6
            have ho := HO4.out.keep hb6
            clear HL4 HO4 hb6 HPS j10 j11 j12 j13 HB8
            obtain ⟨⟨h10, h11, h12, h13⟩, ⟨f1, l1⟩, ⟨c2, f2, l2⟩, c3, f3, l3⟩ := hx.1.facts
            have hx2 := hx.put (c' : Int) m'
            have ho2 := ((((ho.set (g := w.heap.size) (by omega) 0 (.slice A l.length cap)).set (g := w.heap.size) (by omega) 1 (.int .i64 c')).set (g := w.heap.size) (by omega) 2 (.int .i64 m')).set (g := w.heap.size) (by omega) 3 (.int .i64 0))
            clear hx ho
            go_wp2_with fail
            obtain ⟨W9, hW9⟩ : ∃ W9, (((w6.setCell ⟨w.heap.size, 0, none⟩ (.slice A l.length cap)).setCell ⟨w.heap.size, 1, none⟩ (.int .i64 c')).setCell ⟨w.heap.size, 2, none⟩ (.int .i64 m')).setCell ⟨w.heap.size, 3, none⟩ (.int .i64 0) = W9 := ⟨_, rfl⟩
            rw [hW9] at hx2 ho2 ⊢
            have HX := Lib.hid hx2
            have HO := Lib.hid ho2
            clear hW9 hx2 ho2 h10 h11 h12 h13 f1 l1 c2 f2 l2 c3 f3 l3
            by_cases h58 : l[c']? = some 58
            · refine (HS.out 58 58 rfl true c' m' (decide_eq_true h58) _ (by omega) HX.out.1.2.2.2).mono ?_
              rintro e1 w7 ⟨rfl, hb7⟩
              have hx := HX.out.keep hb7
              have ho := HO.out.keep hb7
              have H58 := Lib.hid h58
              have hcn : c' < l.length := get_lt h58
              clear HX HO hb7 h58
              obtain ⟨⟨h10, h11, h12, h13⟩, ⟨f1, l1⟩, ⟨c2, f2, l2⟩, c3, f3, l3⟩ := hx.1.facts
              have HX := Lib.hid hx
              have HO := Lib.hid ho
              clear hx ho
              have hRd := HRD.out (c' + 1) m' (d + 1)
              obtain ⟨W8, hW8⟩ : ∃ W8, w7.setCell ⟨w.heap.size, 1, none⟩ (.int .i64 ((c' : Int) + 1)) = W8 := ⟨_, rfl⟩
              have hx8 := HX.out.set1 ((c' : Int) + 1)
              have ho8 := HO.out.set (g := w.heap.size) (by omega) 1 (.int .i64 ((c' : Int) + 1))
              rw [hW8] at hx8 ho8
              have hRd2 := hRd W8 hcn (by omega) hm' (by omega) (HR.out.below hx8.1.2.2.2)
              rw [show (((d + 1 : Nat)) : Int) = (d : Int) + 1 from by omega, show (((c' + 1 : Nat)) : Int) = (c' : Int) + 1 from by omega] at hRd2
              have HRd := Lib.hid hRd2
              have HW8 := Lib.hid hW8
              have HX8 := Lib.hid hx8
              have HO8 := Lib.hid ho8
              clear hRd hRd2 hW8 hx8 ho8 HX HO
              go_wp2_with fail
              rw [HW8.out]
              clear HW8 h10 h11 h12 h13 f1 l1 c2 f2 l2 c3 f3 l3
              refine HRd.out.mono ?_
              rintro e1 w10 ⟨r, hr1, hb10, hans⟩
              have hL3 := HX8.out.keep hb10
              have hO3 := HO8.out.keep hb10
              have HR1 := Lib.hid hr1
              have hsz3 : w.heap.size + 1 + 1 + 1 + 1 ≤ w10.heap.size := hL3.2.lt
              have hwr3 : W8.heap.size ≤ w10.heap.size := hb10.size
              have HL3 := Lib.hid hL3
              have HO3 := Lib.hid hO3
              clear hr1 hb10 hL3 hO3 z1 z2 z3 z4 z5 z6 z7 z8 HRd
              cases r with
              | err pe x =>
                obtain ⟨hx0, k, rfl⟩ := hans
                have hxb : (x != 0) = true := by simpa using hx0
                obtain ⟨W4, hW4⟩ : ∃ W4, (w10.alloc (.cells zVal 40)).alloc (.cells (txC A l.length cap pe k x) 49) = W4 := ⟨_, rfl⟩
                have hL4 : LB w A l.length cap ((c' : Int) + 1) m' #[.int .i64 6, .int .i64 0, .string ⟨#[]⟩, .slice BV kids.length cV, .slice BK keys.length cK] W4 := by
                  rw [← hW4]; exact (HL3.out.keep ((Below.refl _ _).alloc (Nat.le_refl _) _)).keep ((Below.refl _ _).alloc (Nat.le_refl _) _)
                have b8 : Blk W4 (w10.heap.size + 1) 49 (txC A l.length cap pe k x) := by
                  rw [← hW4]
                  have := Blk.new (w10.alloc (.cells zVal 40)) 49 (txC A l.length cap pe k x)
                  rw [World.size_alloc] at this; exact this
                have HL4 := Lib.hid hL4
                have HB8 := Lib.hid b8
                obtain ⟨z1, z2, z3, z4, z5, z6, z7, z8⟩ := neqs2 hsz3
                clear hL4 b8
                obtain ⟨j10, j11, j12, j13⟩ := TB.cells HB8.out
                obtain ⟨⟨h10, h11, h12, h13⟩, ⟨f1, l1⟩, ⟨c2, f2, l2⟩, c3, f3, l3⟩ := HL4.out.1.facts
                obtain ⟨_, f8, l8⟩ := HB8.out.rules
                go_wp2
                clear hW4
                go_region_held3 (fun w' => w'.cell? ⟨w10.heap.size + 1, 0, none⟩ = some (.slice A l.length cap) ∧ w'.cell? ⟨w10.heap.size + 1, 1, none⟩ = some (.int .i64 pe) ∧ w'.cell? ⟨w10.heap.size + 1, 2, none⟩ = some (.int .i64 k) ∧ w'.cell? ⟨w10.heap.size + 1, 3, none⟩ = some (.int .i64 x)) (go_keep) (fail)
                all_goals
                  go_wp2
                  refine bodyPost_ret (v := .tuple #[.agg zVal, .agg (txC A l.length cap pe k x)]) (by simp only [results, Tryd.results60]; go_simp) rfl ?_
                  refine ⟨.err pe x, HC.out _ ?_, (HL4.out.out _ _ _ _ _ _ _ _ _).drew, hx0, k, rfl⟩
                  exact ObR.err (s := s) (c := c) (by rw [HQ0.out]; exact H34.out) (by rw [HQ0.out]; exact HQR.out) HIN.out (by rw [HC'.out]; exact H58.out) (by rw [HC'.out]; exact HR1.out)
              | ok v q k =>
                obtain ⟨hq1, hq2, hk, cs, rfl, hvr⟩ := hans
                obtain ⟨k0, n0, s0, A0, na0, ca0, B0, nb0, cb0, rfl⟩ := hvr.form
                obtain ⟨W4, hW4⟩ : ∃ W4, ((w10.alloc (.cells #[.int .i64 k0, .int .i64 n0, .string s0, .slice A0 na0 ca0, .slice B0 nb0 cb0] 40)).alloc (.cells (txC A l.length cap q k 0) 49)) = W4 := ⟨_, rfl⟩
                have hb34 : Below w10.heap.size w10 W4 := by rw [← hW4]; exact ((Below.refl _ _).alloc (Nat.le_refl _) _).alloc (by simp) _
                have hb7 : Blk W4 w10.heap.size 40 #[.int .i64 k0, .int .i64 n0, .string s0, .slice A0 na0 ca0, .slice B0 nb0 cb0] := by rw [← hW4]; exact (Blk.new _ _ _).alloc _
                have hb8 : Blk W4 (w10.heap.size + 1) 49 (txC A l.length cap q k 0) := by
                  rw [← hW4]
                  have := Blk.new (w10.alloc (.cells #[.int .i64 k0, .int .i64 n0, .string s0, .slice A0 na0 ca0, .slice B0 nb0 cb0] 40)) 49 (txC A l.length cap q k 0)
                  rw [World.size_alloc] at this; exact this
                have hsz4 : W4.heap.size = w10.heap.size + 1 + 1 := by rw [← hW4]; simp
                have HL4 := Lib.hid (HL3.out.keep hb34)
                have HO4 := Lib.hid (HO3.out.keep hb34)
                have HVX := Lib.hid (HO8.out.fresh HX8.out.2.lt (hvr.bel hb34))
                have HB7 := Lib.hid hb7
                have HB8 := Lib.hid hb8
                have HSZ4 := Lib.hid hsz4
                have HW4 := Lib.hid hW4
                obtain ⟨z1, z2, z3, z4, z5, z6, z7, z8⟩ := neqs2 hsz3
                have hroK : ∀ j, (Value.slice BK keys.length cK).ownBlock = some j → w.heap.size + 1 + 1 + 1 < j ∧ j < w10.heap.size := fun j e => by have := HO3.out.2.1.lt j e; omega
                have hroV : ∀ j, (Value.slice BV kids.length cV).ownBlock = some j → w.heap.size + 1 + 1 + 1 < j ∧ j < w10.heap.size := fun j e => by have := HO3.out.1.lt j e; omega
                have HROK := Lib.hid hroK
                have HROV := Lib.hid hroV
                clear hb34 hb7 hb8 hvr hsz4 hW4 hroK hroV
                obtain ⟨c4, f4, l4⟩ := HL3.out.2.rules
                go_upto_region 21 with (fail)
                rw [HW4.out]
                clear c4 f4 l4 HW4 HL3 HO3 HX8 HO8
                obtain ⟨c4, f4, l4⟩ := HL4.out.2.rules
                have hO5 := Lib.hid (HO4.out.2.1.alloc (.cells #[.string ⟨s.toArray⟩] 9))
                have hR5 := Lib.hid (Rd.of_blk (Blk.new W4 9 #[.string ⟨s.toArray⟩]))
                have hbs5 : w.heap.size + 1 + 1 + 1 + 1 ≤ (W4.alloc (.cells #[.string ⟨s.toArray⟩] 9)).heap.size := by rw [World.size_alloc, HSZ4.out]; omega
                have HBS5 := Lib.hid hbs5
                have hkl2 : keys.length ≤ 1048576 := by rw [HKK.out]; omega
                have HKL2 := Lib.hid hkl2
                clear hbs5 hkl2
                go_upto_region 22 with (at_builtin; refine wpList_append_rd _ rfl _ _ 32 rfl (w.heap.size + 1 + 1 + 1 + 1) 9 is _ 1 16 Tryd.underlying32 HIS.out hs0 hs1 hs2 rfl (by decide) (.slice BK keys.length cK) keys.length (strV keys) rfl hO5.out (some ⟨W4.heap.size, 0, none⟩) 1 1 (fun h => by cases h) [.string ⟨s.toArray⟩] rfl rfl hR5.out (fun u hu => by rw [List.mem_singleton.1 hu]; rfl) (by have := HKL2.out; unfold maxLen; omega) (by have := HKL2.out; omega) HBS5.out ?_; intro row2 w6 hown6 hgr6 hob6; obtain ⟨BK2, cK2, rfl, hcr, hrr6⟩ := Rd.of_own hown6; have hL6 := (HL4.out.keep ((Below.refl _ _).alloc (Nat.le_refl _) _)).grown hgr6 (fun k e => (HROK.out k e).1); obtain ⟨c6, f6, l6⟩ := hL6.2.rules)
                have hob := OB.growK (s := s) (HO4.out.keep ((Below.refl _ _).alloc (Nat.le_refl _) (.cells #[.string ⟨s.toArray⟩] 9))) (HVX.out.bel ((Below.refl _ _).alloc (Nat.le_refl _) _)) hown6 hgr6 hob6
                have hb7 := (HB7.out.alloc (.cells #[.string ⟨s.toArray⟩] 9)).grown hgr6 (fun e => by have := (HROK.out _ e.symm).2; omega)
                have hb8 := (HB8.out.alloc (.cells #[.string ⟨s.toArray⟩] 9)).grown hgr6 (fun e => by have := (HROK.out _ e.symm).2; omega)
                have hsz6 : w10.heap.size + 1 + 1 < w6.heap.size := by have h1 := hgr6.size; rw [World.size_alloc, HSZ4.out] at h1; omega
                obtain ⟨W7, hW7⟩ : ∃ W7, w6.setCell ⟨w.heap.size + 1 + 1 + 1, 4, none⟩ (.slice BK2 (keys.length + 1) cK2) = W7 := ⟨_, rfl⟩
                have hL7 : LB w A l.length cap ((c' : Int) + 1) m' #[.int .i64 6, .int .i64 0, .string ⟨#[]⟩, .slice BV kids.length cV, .slice BK2 (keys.length + 1) cK2] W7 := by rw [← hW7]; exact hL6.vset 4 _
                have hO7 := hob.1.set (g := w.heap.size + 1 + 1 + 1) (by omega) 4 (.slice BK2 (keys.length + 1) cK2)
                have hV7 := hob.2.keep (KeepF.refl.set (k := w.heap.size + 1 + 1 + 1) (fun b hb => by have := hb.1; omega) 4 (.slice BK2 (keys.length + 1) cK2))
                have hb7' := hb7.far (p := ⟨w.heap.size + 1 + 1 + 1, 4, none⟩) (by show _ ≠ w.heap.size + 1 + 1 + 1; omega) (.slice BK2 (keys.length + 1) cK2)
                have hb8' := hb8.far (p := ⟨w.heap.size + 1 + 1 + 1, 4, none⟩) (by show _ ≠ w.heap.size + 1 + 1 + 1; omega) (.slice BK2 (keys.length + 1) cK2)
                have hsz7 : w10.heap.size + 1 + 1 < W7.heap.size := by rw [← hW7]; simpa [World.setCell] using hsz6
                rw [hW7] at hO7 hV7 hb7' hb8'
                try rw [hW7]
                obtain ⟨keys7, hk7⟩ : ∃ keys7, keys ++ [s] = keys7 := ⟨_, rfl⟩
                have hkn : keys.length + 1 = keys7.length := by rw [← hk7, List.length_append, List.length_singleton]
                rw [hk7] at hO7
                rw [hkn] at hL7 hO7 hV7
                have HK7 := Lib.hid hk7
                have HKN := Lib.hid hkn
                have HL7 := Lib.hid hL7
                have HO7 := Lib.hid hO7
                have HV7 := Lib.hid hV7
                have HB7' := Lib.hid hb7'
                have HB8' := Lib.hid hb8'
                have HSZ7 := Lib.hid hsz7
                try rw [hkn]
                clear hob hb7 hb8 hsz6 hW7 hL7 hO7 hV7 hb7' hb8' hsz7 hk7 hkn hL6 c6 f6 l6 hrr6 hcr hown6 hgr6 hob6 hO5 hR5 HBS5 HL4 HO4 HVX HB7 HB8 HROK c4 f4 l4
                obtain ⟨c4, f4, l4⟩ := HL7.out.2.rules
                obtain ⟨c7, f7, l7⟩ := HB7'.out.rules
                have hO5 := Lib.hid (HO7.out.1.alloc (.cells #[.int .i64 k0, .int .i64 n0, .string s0, .slice A0 na0 ca0, .slice B0 nb0 cb0] 40))
                have hR5 := Lib.hid (Rd.of_blk (Blk.new W7 40 #[.int .i64 k0, .int .i64 n0, .string s0, .slice A0 na0 ca0, .slice B0 nb0 cb0]))
                have hbs5 : w.heap.size + 1 + 1 + 1 + 1 ≤ (W7.alloc (.cells #[.int .i64 k0, .int .i64 n0, .string s0, .slice A0 na0 ca0, .slice B0 nb0 cb0] 40)).heap.size := by rw [World.size_alloc]; have := HSZ7.out; omega
                have HBS5 := Lib.hid hbs5
                have HONE := Lib.hid HV7.out.one
                clear hbs5
                go_upto_region 23 with (at_builtin; refine wpList_append_rd _ rfl _ _ 38 rfl (w.heap.size + 1 + 1 + 1 + 1) 40 iv _ 5 80 Tryd.underlying38 HIV.out hv0 hv1 hv2 rfl (by decide) (.slice BV kids.length cV) kids.length css.flatten rfl hO5.out (some ⟨W7.heap.size, 0, none⟩) 1 1 (fun h => by cases h) [.int .i64 k0, .int .i64 n0, .string s0, .slice A0 na0 ca0, .slice B0 nb0 cb0] rfl rfl hR5.out HONE.out (by unfold maxLen; omega) (by omega) HBS5.out ?_; intro row2 w6 hown6 hgr6 hob6; obtain ⟨BV2, cV2, rfl, hcr, hrr6⟩ := Rd.of_own hown6; have hL6 := (HL7.out.keep ((Below.refl _ _).alloc (Nat.le_refl _) _)).grown hgr6 (fun k e => (HROV.out k e).1); obtain ⟨c6, f6, l6⟩ := hL6.2.rules; have hB6 := (HB8'.out.alloc (.cells #[.int .i64 k0, .int .i64 n0, .string s0, .slice A0 na0 ca0, .slice B0 nb0 cb0] 40)).grown hgr6 (fun e => by have := (HROV.out _ e.symm).2; omega); obtain ⟨m10, m11, m12, m13⟩ := TB.cells hB6; obtain ⟨_, f9, l9⟩ := hB6.rules)
                have hob := OB.growV (HO7.out.keep ((Below.refl _ _).alloc (Nat.le_refl _) (.cells #[.int .i64 k0, .int .i64 n0, .string s0, .slice A0 na0 ca0, .slice B0 nb0 cb0] 40))) (HV7.out.bel ((Below.refl _ _).alloc (Nat.le_refl _) _)) hown6 hgr6 hob6
                obtain ⟨W9, hW9⟩ : ∃ W9, w6.setCell ⟨w.heap.size + 1 + 1 + 1, 3, none⟩ (.slice BV2 (kids.length + 1) cV2) = W9 := ⟨_, rfl⟩
                have hL9 : LB w A l.length cap ((c' : Int) + 1) m' #[.int .i64 6, .int .i64 0, .string ⟨#[]⟩, .slice BV2 (kids.length + 1) cV2, .slice BK2 keys7.length cK2] W9 := by rw [← hW9]; exact hL6.vset 3 _
                have hO9 := hob.set (g := w.heap.size + 1 + 1 + 1) (by omega) 3 (.slice BV2 (kids.length + 1) cV2)
                have hB9 := hB6.far (p := ⟨w.heap.size + 1 + 1 + 1, 3, none⟩) (by show _ ≠ w.heap.size + 1 + 1 + 1; omega) (.slice BV2 (kids.length + 1) cV2)
                rw [hW9] at hO9 hB9 ⊢
                generalize (css ++ [([.int .i64 k0, .int .i64 n0, .string s0, .slice A0 na0 ca0, .slice B0 nb0 cb0] : List Value)]) = css7 at hO9
                obtain ⟨kids7, hk7⟩ : ∃ kids7, kids ++ [v] = kids7 := ⟨_, rfl⟩
                have hkn : kids.length + 1 = kids7.length := by rw [← hk7, List.length_append, List.length_singleton]
                have hkl7 : kids7.length ≤ a' + 1 := by omega
                have HKK7 := Lib.hid (show keys7.length = kids7.length by rw [← HKN.out, ← hkn, HKK.out])
                rw [hk7] at hO9
                rw [hkn] at hL9 hO9
                have HJ7 := Lib.hid hk7
                have HL9 := Lib.hid hL9
                have HO9 := Lib.hid hO9
                obtain ⟨q', hq'⟩ : ∃ q', skipB l q = q' := ⟨_, rfl⟩
                have hql' : q' ≤ l.length := by rw [← hq']; exact skipB_le hq2
                have hqq' : q ≤ q' := by rw [← hq']; exact skipB_ge l q
                have hps := t5pass_any A l cap q k W9 (HR.out.below HL9.out.1.2.2.2) hq2 hcap hlen
                rw [hq'] at hps
                have HQ' := Lib.hid hq'
                have HPS := Lib.hid hps
                have HND7 := Lib.hid (show keys7.Nodup by rw [← HK7.out]; exact List.nodup_append.2 ⟨HND.out, by simp, by intro a ha b hb; rw [List.mem_singleton.1 hb]; intro e; exact HIN.out (e ▸ ha)⟩)
                have HB9 := Lib.hid hB9
                clear hB9 m10 m11 m12 m13 f9 l9
                clear hob hW9 hL9 hO9 hk7 hq' hB6 hL6 c6 f6 l6 hrr6 hcr hown6 hgr6 hob6 hO5 hR5 HBS5 HONE HL7 HO7 HV7 HB7' HB8' HSZ7 HROV c4 f4 l4 c7 f7 l7 hps
                go_cut [] (fun wx => Hid (LB w A l.length cap q' k #[.int .i64 6, .int .i64 0, .string ⟨#[]⟩, .slice BV2 kids7.length cV2, .slice BK2 keys7.length cK2] wx) ∧ Hid (OB (w.heap.size + 1 + 1 + 1 + 1) (.slice BV2 kids7.length cV2) (.slice BK2 keys7.length cK2) css7 kids7 keys7 wx))
                case first =>
                  obtain ⟨m10, m11, m12, m13⟩ := TB.cells HB9.out
                  obtain ⟨_, f9, l9⟩ := HB9.out.rules
                  go_wp2_with fail
                  refine HPS.out.mono ?_
                  rintro e1 w11 ⟨rfl, hb11⟩
                  have hL8 := HL9.out.keep hb11
                  have ho8 := HO9.out.keep hb11
                  have HX2 := Lib.hid (hL8.put (q' : Int) k)
                  have HO2 := Lib.hid ((((ho8.set (g := w.heap.size) (by omega) 0 (.slice A l.length cap)).set (g := w.heap.size) (by omega) 1 (.int .i64 q')).set (g := w.heap.size) (by omega) 2 (.int .i64 k)).set (g := w.heap.size) (by omega) 3 (.int .i64 0))
                  obtain ⟨⟨h10, h11, h12, h13⟩, ⟨f1, l1⟩, ⟨c2, f2, l2⟩, c3, f3, l3⟩ := hL8.1.facts
                  clear hL8 ho8 hb11
                  go_wp2
                  go_meet
                  case rel => exact ⟨HX2, HO2⟩
                case rest =>
                  obtain ⟨HX, HO⟩ := hcut
                  clear z1 z2 z3 z4 z5 z6 z7 z8 hkn hsz3 hwr3 HL9 HO9 HPS HSZ4 HB9
                  obtain ⟨⟨h10, h11, h12, h13⟩, ⟨f1, l1⟩, ⟨c2, f2, l2⟩, c3, f3, l3⟩ := HX.out.1.facts
                  go_wp2_with fail
                  by_cases h125 : l[q']? = some 125
                  · refine (HS.out 125 125 rfl true q' k (decide_eq_true h125) _ (by omega) HX.out.1.2.2.2).mono ?_
                    rintro e1 w12 ⟨rfl, hb12⟩
                    have hx := HX.out.keep hb12
                    have ho := HO.out.keep hb12
                    have H125 := Lib.hid h125
                    have hqn : q' < l.length := get_lt h125
                    have hx2 := hx.set1 ((q' : Int) + 1)
                    have ho2 := ho.set (g := w.heap.size) (by omega) 1 (.int .i64 ((q' : Int) + 1))
                    obtain ⟨⟨h10, h11, h12, h13⟩, ⟨f1, l1⟩, ⟨c2, f2, l2⟩, c3, f3, l3⟩ := hx.1.facts
                    clear hx ho h125 HX HO hb12
                    go_wp2
                    obtain ⟨W3, hW3⟩ : ∃ W3, w12.setCell ⟨w.heap.size, 1, none⟩ (.int .i64 ((q' : Int) + 1)) = W3 := ⟨_, rfl⟩
                    rw [hW3] at hx2 ho2 ⊢
                    have HX := Lib.hid hx2
                    have HO := Lib.hid ho2
                    clear hW3 hx2 ho2 h10 h11 h12 h13 f1 l1 c2 f2 l2 c3 f3 l3
                    have HSRT := Lib.hid (t5sorted_any (w.heap.size + 1 + 1 + 1 + 1) _ kids7 keys7 W3.drew ((ob_vr HO.out).keep ⟨Nat.le_refl _, fun _ _ _ => rfl⟩) HX.out.2.lt HKK7.out HND7.out (by rw [HKK7.out]; omega))
                    obtain ⟨⟨h10, h11, h12, h13⟩, ⟨f1, l1⟩, ⟨c2, f2, l2⟩, c3, f3, l3⟩ := HX.out.1.facts
                    obtain ⟨c4, f4, l4⟩ := HX.out.2.rules
                    have k0 := c4 0
                    have k1 := c4 1
                    have k2 := c4 2
                    have k3 := c4 3
                    have k4 := c4 4
                    simp at k0 k1 k2 k3 k4
                    go_region_held3 (fun w' => w'.cell? ⟨w.heap.size, 0, none⟩ = some (.slice A l.length cap) ∧ w'.cell? ⟨w.heap.size, 1, none⟩ = some (.int .i64 ((q' : Int) + 1)) ∧ w'.cell? ⟨w.heap.size, 2, none⟩ = some (.int .i64 k) ∧ w'.cell? ⟨w.heap.size, 3, none⟩ = some (.int .i64 0) ∧
                      w'.cell? ⟨w.heap.size + 1 + 1 + 1, 0, none⟩ = some (.int .i64 6) ∧ w'.cell? ⟨w.heap.size + 1 + 1 + 1, 1, none⟩ = some (.int .i64 0) ∧ w'.cell? ⟨w.heap.size + 1 + 1 + 1, 2, none⟩ = some (.string ⟨#[]⟩) ∧ w'.cell? ⟨w.heap.size + 1 + 1 + 1, 3, none⟩ = some (.slice BV2 kids7.length cV2) ∧ w'.cell? ⟨w.heap.size + 1 + 1 + 1, 4, none⟩ = some (.slice BK2 keys7.length cK2)) (go_keep)
                      ((go_at_call 83; refine HSRT.out.mono ?_; rintro e w13 ⟨cs', rfl, hvr', hb13⟩; obtain ⟨k9, n9, s9, A9, na9, ca9, B9, nb9, cb9, rfl⟩ := hvr'.form; have hx13 := HX.out.drew.keep hb13; obtain ⟨⟨i10, i11, i12, i13⟩, ⟨g1, g1'⟩, ⟨g2, g2', g2''⟩, g3, g3', g3''⟩ := hx13.1.facts; obtain ⟨c5, f5, l5⟩ := hx13.2.rules; have kk0 := c5 0; have kk1 := c5 1; have kk2 := c5 2; have kk3 := c5 3; have kk4 := c5 4; simp at kk0 kk1 kk2 kk3 kk4))
                    all_goals
                      have hvf := (hvr'.keep (out_keep0 (g := w.heap.size) (fun b hb => by omega) (.int .i64 k9) (.int .i64 n9) (.string s9) (.slice A9 na9 ca9) (.slice B9 nb9 cb9) (.slice A l.length cap) (.int .i64 ((q' : Int) + 1)) (.int .i64 k) (.int .i64 0))).mono (F' := fun b => w.heap.size ≤ b) fun b _ hb => by omega
                      rw [← HK7.out, ← HJ7.out] at hvf
                      have HVF := Lib.hid hvf
                      have HX13 := Lib.hid hx13
                      have HCL := Lib.hid (show ObR l a' m' d keys kids (.ok (sortedJ (keys ++ [s]) (kids ++ [v])) (q' + 1) k) by
                        rw [← HQ'.out]
                        exact ObR.close (by rw [HQ0.out]; exact H34.out) (by rw [HQ0.out]; exact HQR.out) HIN.out (by rw [HC'.out]; exact H58.out) (by rw [HC'.out]; exact HR1.out) (by rw [HQ'.out]; exact H125.out))
                      have hlo : a < q' + 1 := by omega
                      clear hvf hx13 hvr'
                      go_wp2_with ((with_reducible refine bodyPost_ret (v := .tuple #[.agg #[.int .i64 k9, .int .i64 n9, .string s9, .slice A9 na9 ca9, .slice B9 nb9 cb9], .agg (txC A l.length cap ((q' : Int) + 1) k 0)]) ?_ rfl ?_); (simp only [results, Tryd.results60]; go_simp); exact ⟨.ok (sortedJ (keys ++ [s]) (kids ++ [v])) (q' + 1) k, HC.out _ HCL.out, HX13.out.out _ _ _ _ _ _ _ _ _, hlo, hqn, hk, _, rfl, HVF.out⟩)
                  · refine (HS.out 125 125 rfl false q' k (decide_eq_false h125) _ (by omega) HX.out.1.2.2.2).mono ?_
                    rintro e1 w12 ⟨rfl, hb12⟩
                    have hx := HX.out.keep hb12
                    have ho := HO.out.keep hb12
                    have H125 := Lib.hid h125
                    obtain ⟨⟨h10, h11, h12, h13⟩, ⟨f1, l1⟩, ⟨c2, f2, l2⟩, c3, f3, l3⟩ := hx.1.facts
                    have HX := Lib.hid hx
                    have HO := Lib.hid ho
                    clear hx ho h125 hb12
                    go_wp2_with fail
                    by_cases h44 : l[q']? = some 44
                    · refine (HS.out 44 44 rfl true q' k (decide_eq_true h44) _ (by omega) HX.out.1.2.2.2).mono ?_
                      rintro e1 w13 ⟨rfl, hb13⟩
                      have hx := HX.out.keep hb13
                      have ho := HO.out.keep hb13
                      have H44 := Lib.hid h44
                      have hqn : q' < l.length := get_lt h44
                      clear h10 h11 h12 h13 f1 l1 c2 f2 l2 c3 f3 l3 HX HO h44 hb13
                      obtain ⟨⟨h10, h11, h12, h13⟩, ⟨f1, l1⟩, ⟨c2, f2, l2⟩, c3, f3, l3⟩ := hx.1.facts
                      have HX := Lib.hid hx
                      have HO := Lib.hid ho
                      clear hx ho
                      go_wp2
                      go_roundg (l.length + 1 - (q' + 1))
                      case measure => rw [HG.out]; omega
                      case rel =>
                        refine ⟨q' + 1, k, kids7, keys7, css7, BV2, BK2, cV2, cK2, hqn, by omega, hk, by omega, HKK7.out, rfl, Lib.hid (HX.out.set1 _), Lib.hid (HO.out.set (g := w.heap.size) (by omega) 1 _), HND7, Lib.hid ?_⟩
                        intro r hr2
                        refine HC.out r (ObR.comma (by rw [HQ0.out]; exact H34.out) (by rw [HQ0.out]; exact HQR.out) HIN.out (by rw [HC'.out]; exact H58.out) (by rw [HC'.out]; exact HR1.out) (by rw [HQ'.out]; exact H44.out) ?_)
                        rw [HQ'.out, HK7.out, HJ7.out]; exact hr2
                    · refine (HS.out 44 44 rfl false q' k (decide_eq_false h44) _ (by omega) HX.out.1.2.2.2).mono ?_
                      rintro e1 w13 ⟨rfl, hb13⟩
                      have hx := HX.out.keep hb13
                      have H44 := Lib.hid h44
                      clear h10 h11 h12 h13 f1 l1 c2 f2 l2 c3 f3 l3 HX HO h44 hb13
                      obtain ⟨⟨h10, h11, h12, h13⟩, ⟨f1, l1⟩, ⟨c2, f2, l2⟩, c3, f3, l3⟩ := hx.1.facts
                      have HX := Lib.hid hx
                      clear hx
                      obtain ⟨fp, fe, hf⟩ : ∃ fp fe, failF l q' 7 = (fp, fe) := ⟨_, _, rfl⟩
                      have hfl := fun W => t5fail_any A l cap q' k 0 7 q' W (by omega) hlen
                      rw [hf] at hfl
                      have HFL := Lib.hid hfl
                      have hfe : fe ≠ 0 := by have := failF_ne (l := l) (p := ((q' : Nat) : Int)) (e := 7) (by decide); rw [hf] at this; exact this
                      have HF := Lib.hid hf
                      clear hfl hf
                      go_wp2_with fail
                      refine (HFL.out _).mono ?_
                      rintro e1 w12 ⟨rfl, hb12⟩
                      have hx := HX.out.keep hb12
                      clear h10 h11 h12 h13 f1 l1 c2 f2 l2 c3 f3 l3 HX hb12
                      obtain ⟨⟨h10, h11, h12, h13⟩, ⟨f1, l1⟩, ⟨c2, f2, l2⟩, c3, f3, l3⟩ := hx.1.facts
                      have HX := Lib.hid hx
                      clear hx
                      have hbad : ObR l a' m' d keys kids (.err fp fe) := by
                        have h := ObR.bad (l := l) (a := a') (m := m') (d := d) (keys := keys) (kids := kids) (s := s) (x := v) (q := q) (k := k) (c := c) (by rw [HQ0.out]; exact H34.out) (by rw [HQ0.out]; exact HQR.out) HIN.out (by rw [HC'.out]; exact H58.out) (by rw [HC'.out]; exact HR1.out) (by rw [HQ'.out]; exact H125.out) (by rw [HQ'.out]; exact H44.out)
                        rw [HQ'.out] at h
                        unfold rFail at h
                        rw [HF.out] at h
                        exact h
                      have HBAD := Lib.hid hbad
                      clear hbad
                      go_wp2_with ((with_reducible refine bodyPost_ret (v := .tuple #[.agg zVal, .agg (txC A l.length cap fp k fe)]) ?_ rfl ?_); (simp only [results, Tryd.results60]; go_simp); exact ⟨.err fp fe, HC.out _ HBAD.out, HX.out.out _ _ _ _ _ _ _ _ _, hfe, k, rfl⟩)
            · refine (HS.out 58 58 rfl false c' m' (decide_eq_false h58) _ (by omega) HX.out.1.2.2.2).mono ?_
              rintro e1 w7 ⟨rfl, hb7⟩
              have hx := HX.out.keep hb7
              have H58 := Lib.hid h58
              clear HX HO hb7 h58
              obtain ⟨⟨h10, h11, h12, h13⟩, ⟨f1, l1⟩, ⟨c2, f2, l2⟩, c3, f3, l3⟩ := hx.1.facts
              have HX := Lib.hid hx
              clear hx
              obtain ⟨fp, fe, hf⟩ : ∃ fp fe, failF l c' 7 = (fp, fe) := ⟨_, _, rfl⟩
              have hfl := fun W => t5fail_any A l cap c' m' 0 7 c' W (by omega) hlen
              rw [hf] at hfl
              have HFL := Lib.hid hfl
              have hfe : fe ≠ 0 := by have := failF_ne (l := l) (p := ((c' : Nat) : Int)) (e := 7) (by decide); rw [hf] at this; exact this
              have HF := Lib.hid hf
              clear hfl hf
              go_wp2_with fail
              refine (HFL.out _).mono ?_
              rintro e1 w12 ⟨rfl, hb12⟩
              have hx := HX.out.keep hb12
              clear h10 h11 h12 h13 f1 l1 c2 f2 l2 c3 f3 l3 HX hb12
              obtain ⟨⟨h10, h11, h12, h13⟩, ⟨f1, l1⟩, ⟨c2, f2, l2⟩, c3, f3, l3⟩ := hx.1.facts
              have HX := Lib.hid hx
              clear hx
              go_wp2
              refine bodyPost_ret (v := .tuple #[.agg zVal, .agg (txC A l.length cap fp m' fe)]) (by simp only [results, Tryd.results60]; go_simp) rfl ?_
              refine ⟨.err fp fe, HC.out _ ?_, HX.out.out _ _ _ _ _ _ _ _ _, hfe, m', rfl⟩
              have h := ObR.nocolon (l := l) (a := a') (m := m') (d := d) (keys := keys) (kids := kids) (s := s) (c := c) (by rw [HQ0.out]; exact H34.out) (by rw [HQ0.out]; exact HQR.out) HIN.out (by rw [HC'.out]; exact H58.out)
              rw [HC'.out] at h
              unfold rFail at h
              rw [HF.out] at h
              exact h
        · rw [if_neg h0] at hqt
          obtain ⟨fp, fe, hf⟩ : ∃ fp fe, failF l pl er = (fp, fe) := ⟨_, _, rfl⟩
          rw [hf] at hqt
          subst hqt
          have hfe : fe ≠ 0 := by have := failF_ne (l := l) (p := pl) h0; rw [hf] at this; exact this
          have hxb : (fe != 0) = true := by simpa using hfe
          have HF := Lib.hid hf
          obtain ⟨W4, hW4⟩ : ∃ W4, w5.alloc (.cells (txC A l.length cap fp m' fe) 49) = W4 := ⟨_, rfl⟩
          have hL4 : LB w A l.length cap q0 m' #[.int .i64 6, .int .i64 0, .string ⟨#[]⟩, .slice BV kids.length cV, .slice BK keys.length cK] W4 := by
            rw [← hW4]; exact HL5.out.keep ((Below.refl _ _).alloc (Nat.le_refl _) _)
          have b8 : Blk W4 w5.heap.size 49 (txC A l.length cap fp m' fe) := by rw [← hW4]; exact Blk.new _ _ _
          have HL4 := Lib.hid hL4
          have HB8 := Lib.hid b8
          clear hL4 b8 hf hqr
          obtain ⟨j10, j11, j12, j13⟩ := TB.cells HB8.out
          obtain ⟨⟨h10, h11, h12, h13⟩, ⟨f1, l1⟩, ⟨c2, f2, l2⟩, c3, f3, l3⟩ := HL4.out.1.facts
          obtain ⟨_, f8, l8⟩ := HB8.out.rules
          go_wp2
          clear hW4
          go_region_held3 (fun w' => w'.cell? ⟨w5.heap.size, 0, none⟩ = some (.slice A l.length cap) ∧ w'.cell? ⟨w5.heap.size, 1, none⟩ = some (.int .i64 fp) ∧ w'.cell? ⟨w5.heap.size, 2, none⟩ = some (.int .i64 m') ∧ w'.cell? ⟨w5.heap.size, 3, none⟩ = some (.int .i64 fe)) (go_keep) (fail)
          all_goals
            go_wp2
            refine bodyPost_ret (v := .tuple #[.agg zVal, .agg (txC A l.length cap fp m' fe)]) (by simp only [results, Tryd.results60]; go_simp) rfl ?_
            refine ⟨.err fp fe, HC.out _ ?_, (HL4.out.out _ _ _ _ _ _ _ _ _).drew, hfe, m', rfl⟩
            have h := ObR.badkey (l := l) (a := a') (m := m') (d := d) (keys := keys) (kids := kids) (by rw [HQ0.out]; exact H34.out) (by rw [HQ0.out, HQR.out]; exact h0)
            rw [HQ0.out, HQR.out] at h
            unfold rFail at h
            simp only at h
            rw [HF.out] at h
            exact h
      · refine (HS.out 34 34 rfl false q0 m' (decide_eq_false h34) _ (by omega) HX.out.1.2.2.2).mono ?_
        rintro e1 w4 ⟨rfl, hb4⟩
        have hx := HX.out.keep hb4
        have H34 := Lib.hid h34
        clear HX HO hb4 h34
        obtain ⟨⟨h10, h11, h12, h13⟩, ⟨f1, l1⟩, ⟨c2, f2, l2⟩, c3, f3, l3⟩ := hx.1.facts
        have HX := Lib.hid hx
        clear hx
        obtain ⟨fp, fe, hf⟩ : ∃ fp fe, failF l q0 7 = (fp, fe) := ⟨_, _, rfl⟩
        have hfl := fun W => t5fail_any A l cap q0 m' 0 7 q0 W (by omega) hlen
        rw [hf] at hfl
        have HFL := Lib.hid hfl
        have hfe : fe ≠ 0 := by have := failF_ne (l := l) (p := ((q0 : Nat) : Int)) (e := 7) (by decide); rw [hf] at this; exact this
        have HF := Lib.hid hf
        clear hfl hf
        go_wp2_with fail
        refine (HFL.out _).mono ?_
        rintro e1 w12 ⟨rfl, hb12⟩
        have hx := HX.out.keep hb12
        clear h10 h11 h12 h13 f1 l1 c2 f2 l2 c3 f3 l3 HX hb12
        obtain ⟨⟨h10, h11, h12, h13⟩, ⟨f1, l1⟩, ⟨c2, f2, l2⟩, c3, f3, l3⟩ := hx.1.facts
        have HX := Lib.hid hx
        clear hx
        go_wp2
        refine bodyPost_ret (v := .tuple #[.agg zVal, .agg (txC A l.length cap fp m' fe)]) (by simp only [results, Tryd.results60]; go_simp) rfl ?_
        refine ⟨.err fp fe, HC.out _ ?_, HX.out.out _ _ _ _ _ _ _ _ _, hfe, m', rfl⟩
        have h := ObR.nokey (l := l) (a := a') (m := m') (d := d) (keys := keys) (kids := kids) (by rw [HQ0.out]; exact H34.out)
        rw [HQ0.out] at h
        unfold rFail at h
        rw [HF.out] at h
        exact h
end Go.Proofs.YtalhoacancbldaaDoor
