/- The walk of the reference davenportref05: list, given Read on what is left. -/
import Derived.Test.YtalhoacancbldaaDoorRead5a
import Derived.Test.YtalhoacancbldaaDoorParse1
import Derived.Deep.DeepCutAuto
namespace Go.Proofs.YtalhoacancbldaaDoor
set_option linter.unusedVariables false
set_option linter.unusedSimpArgs false
open Go.RowKit
attribute [local go_sem] run_index_arr run_part_agg run_part_one run_field_agg

theorem own_rdF {w : World} {base : Nat} {e : TypeId} {size n : Nat} {v : Value} {xs : List Value} {F : Nat → Prop} (h : w.ownsRow base e size v n xs) (hF : ∀ b, base ≤ b → F b) :
    ∃ A cap, v = .slice A n cap ∧ n ≤ cap ∧ (A = none → cap = 0) ∧ RdF w F A xs := by
  obtain ⟨A, cap, e1, h1, h2⟩ := Rd.of_own h
  refine ⟨A, cap, e1, h1, fun hA => ?_, fun hn => ?_⟩
  · subst hA
    rcases h.2 with ⟨h3, _⟩ | ⟨g, c, cur, h3, _⟩
    · rw [h3] at e1; injection e1 with _ _ e4; exact e4.symm
    · rw [h3] at e1; injection e1 with e4; cases e4
  · obtain ⟨b, o, e2, hb, hx⟩ := h2 hn
    refine ⟨b, o, e2, hb, hF b ?_, hx⟩
    subst e2
    exact (h.lt b (by rw [e1]; rfl)).1
theorem neqs2 {g k : Nat} (h : g + 1 + 1 + 1 + 1 ≤ k) : k ≠ g ∧ k ≠ g + 1 ∧ k ≠ g + 1 + 1 ∧ k ≠ g + 1 + 1 + 1 ∧ g ≠ k ∧ g + 1 ≠ k ∧ g + 1 + 1 ≠ k ∧ g + 1 + 1 + 1 ≠ k := by
  refine ⟨?_, ?_, ?_, ?_, ?_, ?_, ?_, ?_⟩ <;> omega
/-- where the rows of a row's values may lie: not in the row itself -/
def FR (lo : Nat) (row : Value) (b : Nat) : Prop := lo ≤ b ∧ some b ≠ row.ownBlock
theorem vrs_grow {w w2 : World} {lo : Nat} {row row2 : Value} {css : List (List Value)} {kids : List JV} (h : VRs w (FR lo row) css kids) (hg : w.grownBy w2 row.ownBlock) (ho : row2.ownBlock = row.ownBlock ∨ row2.ownBlock = some w.heap.size) :
    VRs w2 (FR lo row2) css kids := by
  have h1 : VRs w (fun b => FR lo row b ∧ b < w.heap.size) css kids := h.mono fun b hb hF => ⟨hF, hb⟩
  have h2 : VRs w2 (fun b => FR lo row b ∧ b < w.heap.size) css kids := h1.keep (KeepF.of_grown hg fun b hb => hb.1.2)
  refine h2.mono fun b _ hF => ⟨hF.1.1, fun e => ?_⟩
  rcases ho with ho | ho
  · exact hF.1.2 (by rw [e, ho])
  · rw [ho] at e
    have : b = w.heap.size := by injection e
    omega
theorem vr_fresh {w w2 : World} {lo : Nat} {row : Value} {base n size : Nat} {e : TypeId} {xs : List Value} {c : List Value} {x : JV} (hown : w.ownsRow base e size row n xs) (hlo : lo ≤ w.heap.size) (h : VR w2 (fun b => w.heap.size ≤ b) c x) : VR w2 (FR lo row) c x :=
  h.mono fun b _ hb => ⟨by omega, fun e => by have := (hown.lt b e.symm).2; omega⟩

/-- a list, out of a row of one's own -/
theorem ls_vr {w : World} {base lo cr : Nat} {Ar : Option Addr} {css : List (List Value)} {kids : List JV} (ho : w.ownsRow base 40 5 (.slice Ar kids.length cr) kids.length css.flatten) (hv : VRs w (FR base (.slice Ar kids.length cr)) css kids) (hlo : lo ≤ base) :
    VR w (fun b => lo ≤ b) [.int .i64 5, .int .i64 0, .string ⟨#[]⟩, .slice Ar kids.length cr, .slice none 0 0] (.mk 5 0 [] kids []) := by
  obtain ⟨A, cap, e, h1, h2, h3⟩ := own_rdF (F := fun b => lo ≤ b) ho (fun b hb => by omega)
  injection e with e1 _ e2
  subst e1; subst e2
  exact VR.into (keys := []) 5 0 [] (hv.mono fun b _ hb => by have := hb.1; omega) h1 (Nat.le_refl _) h2 (fun _ => rfl) h3 RdF.nil rfl rfl
/-- four blocks of one's own: a text, two for what is answered, a value under way -/
def LB (w : World) (A : Option Addr) (n cap : Nat) (p m : Int) (vc : Array Value) (wr : World) : Prop := XB w A n cap p m wr ∧ Blk wr (w.heap.size + 1 + 1 + 1) 40 vc
section
variable {w wr wx : World} {A : Option Addr} {n cap : Nat} {p m : Int} {vc : Array Value}
theorem LB.new (w : World) (A : Option Addr) (n cap : Nat) (p m : Int) (vc : Array Value) :
    LB w A n cap p m vc ((((w.alloc (.cells (txC A n cap p m 0) 49)).alloc (.cells zVal 40)).alloc (.cells zTx 49)).alloc (.cells vc 40)) := by
  refine ⟨(XB.new w A n cap p m).keep ((Below.refl _ _).alloc (Nat.le_refl _) _), ?_⟩
  have := Blk.new (((w.alloc (.cells (txC A n cap p m 0) 49)).alloc (.cells zVal 40)).alloc (.cells zTx 49)) 40 vc
  rw [World.size_alloc, World.size_alloc, World.size_alloc] at this; exact this
theorem LB.keep (h : LB w A n cap p m vc wr) (hb : Below wr.heap.size wr wx) : LB w A n cap p m vc wx := ⟨h.1.keep hb, h.2.keep hb⟩
theorem LB.grown {row : Option Nat} (h : LB w A n cap p m vc wr) (hb : wr.grownBy wx row) (hr : ∀ k, row = some k → w.heap.size + 1 + 1 + 1 < k) : LB w A n cap p m vc wx := by
  have hn : ∀ g, g ≤ w.heap.size + 1 + 1 + 1 → some g ≠ row := fun g hg e => by have := hr g e.symm; omega
  refine ⟨⟨h.1.1.grown hb (hn _ (by omega)), h.1.2.1.grown hb (hn _ (by omega)), h.1.2.2.1.grown hb (hn _ (by omega)), ?_⟩, h.2.grown hb (hn _ (by omega))⟩
  exact h.1.2.2.2.grown hb h.1.2.2.2.size (fun k e => by have := hr k e; omega)
theorem LB.drew (h : LB w A n cap p m vc wr) : LB w A n cap p m vc wr.drew := ⟨h.1.drew, h.2.drew⟩
theorem LB.set1 (h : LB w A n cap p m vc wr) (q : Int) : LB w A n cap q m vc (wr.setCell ⟨w.heap.size, 1, none⟩ (.int .i64 q)) := ⟨h.1.set1 q, h.2.far (by simp; omega) _⟩
theorem LB.put (h : LB w A n cap p m vc wr) (q k : Int) :
    LB w A n cap q k vc ((((wr.setCell ⟨w.heap.size, 0, none⟩ (.slice A n cap)).setCell ⟨w.heap.size, 1, none⟩ (.int .i64 q)).setCell ⟨w.heap.size, 2, none⟩ (.int .i64 k)).setCell ⟨w.heap.size, 3, none⟩ (.int .i64 0)) :=
  ⟨⟨(((h.1.1.set_ 0 _).set_ 1 _).set_ 2 _).set_ 3 _, (((h.1.2.1.far (by simp) _).far (by simp) _).far (by simp) _).far (by simp) _, (((h.1.2.2.1.far (by simp; omega) _).far (by simp; omega) _).far (by simp; omega) _).far (by simp; omega) _, bel_put4 h.1.2.2.2 (Nat.le_refl _) _ _ _ _⟩,
    (((h.2.far (by simp; omega) _).far (by simp; omega) _).far (by simp; omega) _).far (by simp; omega) _⟩
theorem LB.vset (h : LB w A n cap p m vc wr) (i : Nat) (u : Value) : LB w A n cap p m (vc.setIfInBounds i u) (wr.setCell ⟨w.heap.size + 1 + 1 + 1, i, none⟩ u) :=
  ⟨⟨h.1.1.far (by show _ ≠ w.heap.size + 1 + 1 + 1; omega) _, h.1.2.1.far (by show _ ≠ w.heap.size + 1 + 1 + 1; omega) _, h.1.2.2.1.far (by show _ ≠ w.heap.size + 1 + 1 + 1; omega) _, h.1.2.2.2.setCell (p := ⟨w.heap.size + 1 + 1 + 1, i, none⟩) (by show w.heap.size ≤ w.heap.size + 1 + 1 + 1; omega) _⟩, h.2.set_ i u⟩
theorem LB.out (h : LB w A n cap p m vc wr) (a b c d e a' b' c' d' : Value) :
    Below w.heap.size w (((((((((wr.setCell ⟨w.heap.size + 1, 0, none⟩ a).setCell ⟨w.heap.size + 1, 1, none⟩ b).setCell ⟨w.heap.size + 1, 2, none⟩ c).setCell ⟨w.heap.size + 1, 3, none⟩ d).setCell ⟨w.heap.size + 1, 4, none⟩ e).setCell
      ⟨w.heap.size + 1 + 1, 0, none⟩ a').setCell ⟨w.heap.size + 1 + 1, 1, none⟩ b').setCell ⟨w.heap.size + 1 + 1, 2, none⟩ c').setCell ⟨w.heap.size + 1 + 1, 3, none⟩ d') := h.1.out a b c d e a' b' c' d'
end
theorem KeepF.drew5 {W W' : World} {F : Nat → Prop} (h : KeepF F W W') : KeepF F W W'.drew := ⟨h.1, h.2⟩
theorem out_keep {W : World} {g : Nat} {F : Nat → Prop} (hF : ∀ b, F b → b ≠ g + 1 ∧ b ≠ g + 1 + 1) (a b c d e a' b' c' d' : Value) :
    KeepF F W ((((((((((W.setCell ⟨g + 1, 0, none⟩ a).setCell ⟨g + 1, 1, none⟩ b).setCell ⟨g + 1, 2, none⟩ c).setCell ⟨g + 1, 3, none⟩ d).setCell ⟨g + 1, 4, none⟩ e).setCell
      ⟨g + 1 + 1, 0, none⟩ a').setCell ⟨g + 1 + 1, 1, none⟩ b').setCell ⟨g + 1 + 1, 2, none⟩ c').setCell ⟨g + 1 + 1, 3, none⟩ d').drew) :=
  have h1 := fun b hb => (hF b hb).1
  have h2 := fun b hb => (hF b hb).2
  KeepF.drew5 (((((((((KeepF.refl.set h1 0 a).set h1 1 b).set h1 2 c).set h1 3 d).set h1 4 e).set h2 0 a').set h2 1 b').set h2 2 c').set h2 3 d')
/-- what a reader of the reference answers -/
def Ans (A : Option Addr) (n cap lo : Nat) (w : World) (r : RRes) (e : Ending) (w' : World) : Prop :=
  Below w.heap.size w w' ∧ match r with
  | .ok v q k => lo < q ∧ q ≤ n ∧ k ≤ 256 ∧ ∃ cs : List Value, e = .returned (.tuple #[.agg cs.toArray, .agg (txC A n cap q k 0)]) ∧ VR w' (fun b => w.heap.size ≤ b) cs v
  | .err p x => x ≠ 0 ∧ ∃ k : Int, e = .returned (.tuple #[.agg zVal, .agg (txC A n cap p k x)])
def RdPost (A : Option Addr) (l : List UInt8) (cap a m d : Nat) (w : World) (e : Ending) (w' : World) : Prop := ∃ r, RdR l a m d r ∧ Ans A l.length cap a w r e w'
/-- Read answers, where less than so much is left -/
def RdAll (A : Option Addr) (l : List UInt8) (cap K : Nat) : Prop := ∀ (a m d : Nat) (w : World), a ≤ l.length → l.length - a < K → m ≤ 256 → d ≤ 8 → Rd w A (byteV l) →
  Calls Tryd.prog 33 #[.agg (txC A l.length cap a m 0), .int .i64 d] w (RdPost A l cap a m d w)
/-- what stands behind a list's first bracket -/
def LsS (l : List UInt8) (p m d : Nat) (r : RRes) : Prop := if l[p]? = some 93 then r = .ok (.mk 5 0 [] [] []) (p + 1) m else LsR l p m d [] r
def LsPost (A : Option Addr) (l : List UInt8) (cap a m d : Nat) (w : World) (e : Ending) (w' : World) : Prop :=
  ∃ r, LsS l (skipB l a) m d r ∧ Ans A l.length cap a w r e w'
set_option maxRecDepth 100000 in
set_option maxHeartbeats 4000000 in
theorem t5list_any (A : Option Addr) (l : List UInt8) (cap K a m d : Nat) (w : World) (hrd : RdAll A l cap K) (hr : Rd w A (byteV l)) (ha : a ≤ l.length) (hK : l.length - a < K) (hm : m ≤ 256) (hd : d ≤ 7) (hcap : l.length ≤ cap) (hlen : l.length ≤ 1048576) :
    Calls Tryd.prog 59 #[.agg (txC A l.length cap a m 0), .int .i64 d] w (LsPost A l cap a m d w) := by
  obtain ⟨i0, hi, hz0, hz1, hz2⟩ := info_parts infoVal
  have HRD := Lib.hid hrd
  have HR := Lib.hid hr
  have HX := Lib.hid (LB.new w A l.length cap a m #[.int .i64 5, .int .i64 0, .string ⟨#[]⟩, .slice none 0 0, .slice none 0 0])
  obtain ⟨p, hp⟩ : ∃ p, skipB l a = p := ⟨_, rfl⟩
  have hpl : p ≤ l.length := by rw [← hp]; exact skipB_le ha
  have hap : a ≤ p := by rw [← hp]; exact skipB_ge l a
  have hpass := fun W (h : Below w.heap.size w W) => t5pass_any A l cap a m W (HR.out.below h) ha hcap hlen
  rw [hp] at hpass
  have HPA := Lib.hid hpass
  have HS := Lib.hid (fun (c : UInt8) (cI : Int) (hcI : cI = c.toNat) (bb : Bool) (q : Nat) (k : Int) (hbb : decide (l[q]? = some c) = bb) W (hq : q ≤ l.length) (h : Below w.heap.size w W) => show Calls Tryd.prog 81 #[.agg (txC A l.length cap q k 0), .int .u8 cI] W fun e w' => e = .returned (.bool bb) ∧ Below W.heap.size W w' by
    subst hcI; subst hbb; exact t5sees_any A l cap q k 0 c W (HR.out.below h) hq hcap hlen)
  unfold LsPost
  rw [hp]
  have HP := Lib.hid hp
  have HI := Lib.hid hi
  obtain ⟨y1, y2, y3, y4, y5, y6, y7, y8, y9, y10, y11, y12⟩ := neqs w.heap.size
  clear hrd hr hpass hp hi
  go_enter Tryd.func59, Tryd.ntmps59
  go_wp2_with fail
  refine (HPA.out _ HX.out.1.2.2.2).mono ?_
  rintro e1 w1 ⟨rfl, hb1⟩
  have hx := HX.out.keep hb1
  clear HX hb1
  obtain ⟨⟨h10, h11, h12, h13⟩, ⟨f1, l1⟩, ⟨c2, f2, l2⟩, c3, f3, l3⟩ := hx.1.facts
  obtain ⟨c4, f4, l4⟩ := hx.2.rules
  have HX := Lib.hid (hx.put p m)
  clear hx
  go_wp2_with fail
  by_cases h93 : l[p]? = some 93
  · refine (HS.out 93 93 rfl true p m (decide_eq_true h93) _ hpl HX.out.1.2.2.2).mono ?_
    rintro e1 w2 ⟨rfl, hb2⟩
    have hx := HX.out.keep hb2
    clear HX h10 h11 h12 h13 f1 l1 c2 f2 l2 c3 f3 l3 c4 f4 l4 hb2
    obtain ⟨⟨h10, h11, h12, h13⟩, ⟨f1, l1⟩, ⟨c2, f2, l2⟩, c3, f3, l3⟩ := hx.1.facts
    have H93 := Lib.hid h93
    have hpn : p < l.length := get_lt h93
    have hx2 := hx.set1 ((p : Int) + 1)
    clear hx h93
    go_wp2
    obtain ⟨W3, hW3⟩ : ∃ W3, w2.setCell ⟨w.heap.size, 1, none⟩ (.int .i64 ((p : Int) + 1)) = W3 := ⟨_, rfl⟩
    rw [hW3] at hx2 ⊢
    have HX := Lib.hid hx2
    clear hW3 h10 h11 h12 h13 f1 l1 c2 f2 l2 c3 f3 l3 hx2
    obtain ⟨⟨h10, h11, h12, h13⟩, ⟨f1, l1⟩, ⟨c2, f2, l2⟩, c3, f3, l3⟩ := HX.out.1.facts
    obtain ⟨c4, f4, l4⟩ := HX.out.2.rules
    have k0 := c4 0
    have k1 := c4 1
    have k2 := c4 2
    have k3 := c4 3
    have k4 := c4 4
    simp at k0 k1 k2 k3 k4
    go_region_held3 (fun w' => w'.cell? ⟨w.heap.size, 0, none⟩ = some (.slice A l.length cap) ∧ w'.cell? ⟨w.heap.size, 1, none⟩ = some (.int .i64 ((p : Int) + 1)) ∧ w'.cell? ⟨w.heap.size, 2, none⟩ = some (.int .i64 m) ∧ w'.cell? ⟨w.heap.size, 3, none⟩ = some (.int .i64 0) ∧
      w'.cell? ⟨w.heap.size + 1 + 1 + 1, 0, none⟩ = some (.int .i64 5) ∧ w'.cell? ⟨w.heap.size + 1 + 1 + 1, 1, none⟩ = some (.int .i64 0) ∧ w'.cell? ⟨w.heap.size + 1 + 1 + 1, 2, none⟩ = some (.string ⟨#[]⟩) ∧ w'.cell? ⟨w.heap.size + 1 + 1 + 1, 3, none⟩ = some (.slice none 0 0) ∧ w'.cell? ⟨w.heap.size + 1 + 1 + 1, 4, none⟩ = some (.slice none 0 0)) (go_keep) (fail)
    all_goals
      go_wp2
      refine bodyPost_ret (v := .tuple #[.agg #[.int .i64 5, .int .i64 0, .string ⟨#[]⟩, .slice none 0 0, .slice none 0 0], .agg (txC A l.length cap ((p : Int) + 1) m 0)]) (by simp only [results, Tryd.results59]; go_simp) rfl ?_
      exact ⟨.ok (.mk 5 0 [] [] []) (p + 1) m, by unfold LsS; rw [if_pos H93.out], (HX.out.out _ _ _ _ _ _ _ _ _).drew, by omega, hpn, hm, _, rfl, VR.zeroK 5⟩
  · refine (HS.out 93 93 rfl false p m (decide_eq_false h93) _ hpl HX.out.1.2.2.2).mono ?_
    rintro e1 w2 ⟨rfl, hb2⟩
    have hx := HX.out.keep hb2
    clear HX h10 h11 h12 h13 f1 l1 c2 f2 l2 c3 f3 l3 c4 f4 l4 hb2
    have H93 := Lib.hid h93
    have HX := Lib.hid hx
    clear hx h93
    go_wp2
    go_loopg [7, 8] (l.length + 1 - p) (fun gk _ _ wr => ∃ (a' m' : Nat) (kids : List JV) (css : List (List Value)) (row : Value), a' ≤ l.length ∧ p ≤ a' ∧ m' ≤ 256 ∧ kids.length ≤ a' ∧ gk = l.length + 1 - a' ∧
      Hid (LB w A l.length cap a' m' #[.int .i64 5, .int .i64 0, .string ⟨#[]⟩, row, .slice none 0 0] wr) ∧ Hid (wr.ownsRow (w.heap.size + 1 + 1 + 1 + 1) 40 5 row kids.length css.flatten) ∧
      Hid (VRs wr (FR (w.heap.size + 1 + 1 + 1 + 1) row) css kids) ∧ Hid (∀ r, LsR l a' m' d kids r → LsS l p m d r))
    case atStart => exact ⟨p, m, [], [], .slice none 0 0, hpl, Nat.le_refl _, hm, Nat.zero_le _, rfl, HX, Lib.hid (World.ownsRow_nil _ _ _ _), Lib.hid VRs.nil, Lib.hid (fun r h => by unfold LsS; rw [if_neg H93.out]; exact h)⟩
    case round =>
      obtain ⟨a', m', kids, css, row, hal, hpa, hm', hkl, hgk, HL, HO, HV, HC⟩ := hrel
      have HG := Lib.hid hgk
      clear hgk HX
      have hRd := HRD.out a' m' (d + 1) wr hal (by omega) hm' (by omega) (HR.out.below HL.out.1.2.2.2)
      rw [show (((d + 1 : Nat)) : Int) = (d : Int) + 1 from by omega] at hRd
      have HRd := Lib.hid hRd
      clear hRd
      obtain ⟨⟨h10, h11, h12, h13⟩, ⟨f1, l1⟩, ⟨c2, f2, l2⟩, c3, f3, l3⟩ := HL.out.1.facts
      go_wp2_with fail
      refine HRd.out.mono ?_
      rintro e1 w3 ⟨r, hr1, hb3, hans⟩
      have hL3 := HL.out.keep hb3
      have hO3 := ownBel HO.out hb3
      have hV3 := HV.out.below hb3
      have HR1 := Lib.hid hr1
      have hsz3 : w.heap.size + 1 + 1 + 1 + 1 ≤ w3.heap.size := hL3.2.lt
      have HL3 := Lib.hid hL3
      have HO3 := Lib.hid hO3
      have HV3 := Lib.hid hV3
      have hwr3 : wr.heap.size ≤ w3.heap.size := hb3.size
      clear h10 h11 h12 h13 f1 l1 c2 f2 l2 c3 f3 l3 hr1 hb3 hL3 hO3 hV3
      cases r with
      | err pe x =>
        obtain ⟨hx0, k, rfl⟩ := hans
        have hxb : (x != 0) = true := by simpa using hx0
        obtain ⟨W4, hW4⟩ : ∃ W4, (w3.alloc (.cells zVal 40)).alloc (.cells (txC A l.length cap pe k x) 49) = W4 := ⟨_, rfl⟩
        have hL4 : LB w A l.length cap a' m' #[.int .i64 5, .int .i64 0, .string ⟨#[]⟩, row, .slice none 0 0] W4 := by
          rw [← hW4]; exact (HL3.out.keep ((Below.refl _ _).alloc (Nat.le_refl _) _)).keep ((Below.refl _ _).alloc (Nat.le_refl _) _)
        have b8 : Blk W4 (w3.heap.size + 1) 49 (txC A l.length cap pe k x) := by
          rw [← hW4]
          have := Blk.new (w3.alloc (.cells zVal 40)) 49 (txC A l.length cap pe k x)
          rw [World.size_alloc] at this; exact this
        have HL4 := Lib.hid hL4
        have HB8 := Lib.hid b8
        obtain ⟨z1, z2, z3, z4, z5, z6, z7, z8⟩ := neqs2 hsz3
        clear hL4 b8
        obtain ⟨j10, j11, j12, j13⟩ := TB.cells HB8.out
        obtain ⟨⟨h10, h11, h12, h13⟩, ⟨f1, l1⟩, ⟨c2, f2, l2⟩, c3, f3, l3⟩ := HL4.out.1.facts
        obtain ⟨_, f8, l8⟩ := HB8.out.rules
        go_wp2
        clear hW4
        go_region_held3 (fun w' => w'.cell? ⟨w3.heap.size + 1, 0, none⟩ = some (.slice A l.length cap) ∧ w'.cell? ⟨w3.heap.size + 1, 1, none⟩ = some (.int .i64 pe) ∧ w'.cell? ⟨w3.heap.size + 1, 2, none⟩ = some (.int .i64 k) ∧ w'.cell? ⟨w3.heap.size + 1, 3, none⟩ = some (.int .i64 x)) (go_keep) (fail)
        all_goals
          go_wp2
          refine bodyPost_ret (v := .tuple #[.agg zVal, .agg (txC A l.length cap pe k x)]) (by simp only [results, Tryd.results59]; go_simp) rfl ?_
          exact ⟨.err pe x, HC.out _ (.err HR1.out), (HL4.out.out _ _ _ _ _ _ _ _ _).drew, hx0, k, rfl⟩
      | ok v q k =>
        obtain ⟨hq1, hq2, hk, cs, rfl, hvr⟩ := hans
        obtain ⟨k0, n0, s0, A0, na0, ca0, B0, nb0, cb0, rfl⟩ := hvr.form
        have HVR := Lib.hid hvr
        obtain ⟨W4, hW4⟩ : ∃ W4, ((w3.alloc (.cells #[.int .i64 k0, .int .i64 n0, .string s0, .slice A0 na0 ca0, .slice B0 nb0 cb0] 40)).alloc (.cells (txC A l.length cap q k 0) 49)) = W4 := ⟨_, rfl⟩
        have hb34 : Below w3.heap.size w3 W4 := by rw [← hW4]; exact ((Below.refl _ _).alloc (Nat.le_refl _) _).alloc (by simp) _
        have b7 : Blk W4 w3.heap.size 40 #[.int .i64 k0, .int .i64 n0, .string s0, .slice A0 na0 ca0, .slice B0 nb0 cb0] := by rw [← hW4]; exact (Blk.new _ _ _).alloc _
        have b8 : Blk W4 (w3.heap.size + 1) 49 (txC A l.length cap q k 0) := by
          rw [← hW4]
          have := Blk.new (w3.alloc (.cells #[.int .i64 k0, .int .i64 n0, .string s0, .slice A0 na0 ca0, .slice B0 nb0 cb0] 40)) 49 (txC A l.length cap q k 0)
          rw [World.size_alloc] at this; exact this
        have hsz4 : W4.heap.size = w3.heap.size + 1 + 1 := by rw [← hW4]; simp
        have HL4 := Lib.hid (HL3.out.keep hb34)
        have HO4 := Lib.hid (ownBel HO3.out hb34)
        have HV4 := Lib.hid (HV3.out.below hb34)
        have HB7 := Lib.hid b7
        have HB8 := Lib.hid b8
        have HVR4 := Lib.hid (HVR.out.bel hb34)
        have HSZ4 := Lib.hid hsz4
        have HW4 := Lib.hid hW4
        obtain ⟨z1, z2, z3, z4, z5, z6, z7, z8⟩ := neqs2 hsz3
        have hro : ∀ j, row.ownBlock = some j → w.heap.size + 1 + 1 + 1 < j ∧ j < w3.heap.size := fun j e => by have := HO3.out.lt j e; omega
        have HRO := Lib.hid hro
        clear hb34 b7 b8 hvr HVR hsz4 hW4 hro
        obtain ⟨c4, f4, l4⟩ := HL3.out.2.rules
        go_upto_region 9 with (fail)
        rw [HW4.out]
        clear c4 f4 l4 HW4
        obtain ⟨j10, j11, j12, j13⟩ := TB.cells HB8.out
        obtain ⟨_, f8, l8⟩ := HB8.out.rules
        obtain ⟨c7, f7, l7⟩ := HB7.out.rules
        obtain ⟨c4, f4, l4⟩ := HL4.out.2.rules
        have hO5 := Lib.hid (HO4.out.alloc (.cells #[.int .i64 k0, .int .i64 n0, .string s0, .slice A0 na0 ca0, .slice B0 nb0 cb0] 40))
        have hR5 := Lib.hid (Rd.of_blk (Blk.new W4 40 #[.int .i64 k0, .int .i64 n0, .string s0, .slice A0 na0 ca0, .slice B0 nb0 cb0]))
        have h1c : ∀ u ∈ ([.int .i64 k0, .int .i64 n0, .string s0, .slice A0 na0 ca0, .slice B0 nb0 cb0] : List Value), u.oneCell' = true := HVR4.out.one
        have H1C := Lib.hid h1c
        have hbs5 : w.heap.size + 1 + 1 + 1 + 1 ≤ (W4.alloc (.cells #[.int .i64 k0, .int .i64 n0, .string s0, .slice A0 na0 ca0, .slice B0 nb0 cb0] 40)).heap.size := by rw [World.size_alloc, HSZ4.out]; omega
        have HBS5 := Lib.hid hbs5
        clear h1c hbs5
        go_wp2_with (at_builtin; refine wpList_append_rd _ rfl _ _ 38 rfl (w.heap.size + 1 + 1 + 1 + 1) 40 i0 _ 5 80 Tryd.underlying38 HI.out hz0 hz1 hz2 rfl (by decide) row kids.length css.flatten rfl hO5.out (some ⟨W4.heap.size, 0, none⟩) 1 1 (fun h => by cases h) [.int .i64 k0, .int .i64 n0, .string s0, .slice A0 na0 ca0, .slice B0 nb0 cb0] rfl rfl hR5.out H1C.out (by unfold maxLen; omega) (by omega) HBS5.out ?_; intro row2 w6 hown6 hgr6 hob6; obtain ⟨Ar, cr, rfl, hcr, hrr6⟩ := Rd.of_own hown6; have hL6 := (HL4.out.keep ((Below.refl _ _).alloc (Nat.le_refl _) _)).grown hgr6 (fun k e => (HRO.out k e).1); obtain ⟨c6, f6, l6⟩ := hL6.2.rules; have hB6 := (HB8.out.alloc _).grown hgr6 (fun e => by have := (HRO.out _ e.symm).2; omega); obtain ⟨m10, m11, m12, m13⟩ := TB.cells hB6; obtain ⟨_, f9, l9⟩ := hB6.rules)
        have hv6 : VRs w6 (FR (w.heap.size + 1 + 1 + 1 + 1) (.slice Ar (kids.length + 1) cr)) (css ++ [([.int .i64 k0, .int .i64 n0, .string s0, .slice A0 na0 ca0, .slice B0 nb0 cb0] : List Value)]) (kids ++ [v]) := by
          refine vrs_grow ?_ hgr6 hob6
          exact (HV4.out.below ((Below.refl _ _).alloc (Nat.le_refl _) _)).snoc (vr_fresh HO.out HL.out.2.lt (HVR4.out.bel ((Below.refl _ _).alloc (Nat.le_refl _) _)))
        obtain ⟨W7, hW7⟩ : ∃ W7, w6.setCell ⟨w.heap.size + 1 + 1 + 1, 3, none⟩ (.slice Ar (kids.length + 1) cr) = W7 := ⟨_, rfl⟩
        have hL7 : LB w A l.length cap a' m' #[.int .i64 5, .int .i64 0, .string ⟨#[]⟩, .slice Ar (kids.length + 1) cr, .slice none 0 0] W7 := by rw [← hW7]; exact hL6.vset 3 _
        have hO7 : W7.ownsRow (w.heap.size + 1 + 1 + 1 + 1) 40 5 (.slice Ar (kids.length + 1) cr) (kids ++ [v]).length (css ++ [([.int .i64 k0, .int .i64 n0, .string s0, .slice A0 na0 ca0, .slice B0 nb0 cb0] : List Value)]).flatten := by
          have e1 : (css ++ [([.int .i64 k0, .int .i64 n0, .string s0, .slice A0 na0 ca0, .slice B0 nb0 cb0] : List Value)]).flatten = css.flatten ++ [.int .i64 k0, .int .i64 n0, .string s0, .slice A0 na0 ca0, .slice B0 nb0 cb0] := by simp
          rw [← hW7, e1, List.length_append, List.length_singleton]
          exact hown6.kept (gb_setCell (gb_refl w6 (some (w.heap.size + 1 + 1 + 1))) 3 _) (.inr (fun e => by have := (hown6.lt _ e).1; omega))
        have hV7 : VRs W7 (FR (w.heap.size + 1 + 1 + 1 + 1) (.slice Ar (kids.length + 1) cr)) (css ++ [([.int .i64 k0, .int .i64 n0, .string s0, .slice A0 na0 ca0, .slice B0 nb0 cb0] : List Value)]) (kids ++ [v]) := by
          rw [← hW7]; exact hv6.keep (KeepF.refl.set (fun b hb => by have := hb.1; omega) 3 _)
        have hB7 : Blk W7 (w3.heap.size + 1) 49 (txC A l.length cap q k 0) := by rw [← hW7]; exact hB6.far (by show _ ≠ w.heap.size + 1 + 1 + 1; omega) _
        rw [hW7]
        have hkl7 : (kids ++ [v]).length ≤ a' + 1 := by rw [List.length_append, List.length_singleton]; omega
        obtain ⟨kids7, hk7⟩ : ∃ kids7, kids ++ [v] = kids7 := ⟨_, rfl⟩
        have hkn : kids.length + 1 = kids7.length := by rw [← hk7, List.length_append, List.length_singleton]
        rw [hk7] at hO7 hV7 hkl7
        rw [hkn] at hL7 hO7 hV7
        generalize (css ++ [([.int .i64 k0, .int .i64 n0, .string s0, .slice A0 na0 ca0, .slice B0 nb0 cb0] : List Value)]) = css7 at hO7 hV7
        have HK7 := Lib.hid hk7
        have HL7 := Lib.hid hL7
        have HO7 := Lib.hid hO7
        have HV7 := Lib.hid hV7
        obtain ⟨q', hq'⟩ : ∃ q', skipB l q = q' := ⟨_, rfl⟩
        have hql' : q' ≤ l.length := by rw [← hq']; exact skipB_le hq2
        have hqq' : q ≤ q' := by rw [← hq']; exact skipB_ge l q
        have hps := t5pass_any A l cap q k W7 (HR.out.below HL7.out.1.2.2.2) hq2 hcap hlen
        rw [hq'] at hps
        have HQ' := Lib.hid hq'
        clear hv6 hW7 hL7 hO7 hV7 hB7 hk7 hkn hq' m10 m11 m12 m13 f9 l9 c6 f6 l6 hB6 hL6 hrr6 hcr hob6 hgr6 hown6 c4 f4 l4 c7 f7 l7 f8 l8 j10 j11 j12 j13 HBS5 H1C hR5 hO5 HVR4 HB7 HB8 HV4 HO4 HL4 HV3 HO3 HL3 HRd HO HV HL
        refine hps.mono ?_
        rintro e1 w8 ⟨rfl, hb8⟩
        have hL8 := HL7.out.keep hb8
        have hO8 := Lib.hid (ownBel HO7.out hb8)
        have hV8 := Lib.hid (HV7.out.below hb8)
        have hL9 := hL8.put (q' : Int) k
        obtain ⟨⟨h10, h11, h12, h13⟩, ⟨f1, l1⟩, ⟨c2, f2, l2⟩, c3, f3, l3⟩ := hL8.1.facts
        clear hps HO7 HV7 HL7 hb8 hL8
        go_wp2_with fail
        obtain ⟨W9, hW9⟩ : ∃ W9, (((w8.setCell ⟨w.heap.size, 0, none⟩ (.slice A l.length cap)).setCell ⟨w.heap.size, 1, none⟩ (.int .i64 q')).setCell ⟨w.heap.size, 2, none⟩ (.int .i64 k)).setCell ⟨w.heap.size, 3, none⟩ (.int .i64 0) = W9 := ⟨_, rfl⟩
        have hO9 : W9.ownsRow (w.heap.size + 1 + 1 + 1 + 1) 40 5 (.slice Ar kids7.length cr) kids7.length css7.flatten := by
          rw [← hW9]
          exact hO8.out.kept (gb_setCell (gb_setCell (gb_setCell (gb_setCell (gb_refl w8 (some w.heap.size)) _ _) _ _) _ _) _ _) (.inr (fun e => by have := (hO8.out.lt _ e).1; omega))
        have hV9 : VRs W9 (FR (w.heap.size + 1 + 1 + 1 + 1) (.slice Ar kids7.length cr)) css7 kids7 := by
          rw [← hW9]
          exact hV8.out.keep ((((KeepF.refl.set (fun b hb => by have := hb.1; omega) 0 _).set (fun b hb => by have := hb.1; omega) 1 _).set (fun b hb => by have := hb.1; omega) 2 _).set (fun b hb => by have := hb.1; omega) 3 _)
        rw [hW9] at hL9 ⊢
        have HL9 := Lib.hid hL9
        have HO9 := Lib.hid hO9
        have HV9 := Lib.hid hV9
        clear hW9 hL9 hO9 hV9 hO8 hV8 h10 h11 h12 h13 f1 l1 c2 f2 l2 c3 f3 l3
        by_cases h93' : l[q']? = some 93
        · refine (HS.out 93 93 rfl true q' k (decide_eq_true h93') _ hql' HL9.out.1.2.2.2).mono ?_
          rintro e1 w10 ⟨rfl, hb10⟩
          have hx := HL9.out.keep hb10
          have HO10 := Lib.hid (ownBel HO9.out hb10)
          have HV10 := Lib.hid (HV9.out.below hb10)
          have H93' := Lib.hid h93'
          have hqn : q' < l.length := get_lt h93'
          have hx2 := hx.set1 ((q' : Int) + 1)
          obtain ⟨⟨h10, h11, h12, h13⟩, ⟨f1, l1⟩, ⟨c2, f2, l2⟩, c3, f3, l3⟩ := hx.1.facts
          clear hx h93' HL9 HO9 HV9 hb10
          go_wp2
          obtain ⟨W3, hW3⟩ : ∃ W3, w10.setCell ⟨w.heap.size, 1, none⟩ (.int .i64 ((q' : Int) + 1)) = W3 := ⟨_, rfl⟩
          have hV3 : VRs W3 (FR (w.heap.size + 1 + 1 + 1 + 1) (.slice Ar kids7.length cr)) css7 kids7 := by
            rw [← hW3]; exact HV10.out.keep (KeepF.refl.set (fun b hb => by have := hb.1; omega) 1 _)
          have hO3 : W3.ownsRow (w.heap.size + 1 + 1 + 1 + 1) 40 5 (.slice Ar kids7.length cr) kids7.length css7.flatten := by
            rw [← hW3]; exact HO10.out.kept (gb_setCell (gb_refl w10 (some w.heap.size)) _ _) (.inr (fun e => by have := (HO10.out.lt _ e).1; omega))
          rw [hW3] at hx2 ⊢
          have HX := Lib.hid hx2
          have HO3 := Lib.hid hO3
          have HV3 := Lib.hid hV3
          clear hW3 hV3 hO3 h10 h11 h12 h13 f1 l1 c2 f2 l2 c3 f3 l3 hx2 HO10 HV10
          obtain ⟨⟨h10, h11, h12, h13⟩, ⟨f1, l1⟩, ⟨c2, f2, l2⟩, c3, f3, l3⟩ := HX.out.1.facts
          obtain ⟨c4, f4, l4⟩ := HX.out.2.rules
          have k0 := c4 0
          have k1 := c4 1
          have k2 := c4 2
          have k3 := c4 3
          have k4 := c4 4
          simp at k0 k1 k2 k3 k4
          go_region_held3 (fun w' => w'.cell? ⟨w.heap.size, 0, none⟩ = some (.slice A l.length cap) ∧ w'.cell? ⟨w.heap.size, 1, none⟩ = some (.int .i64 ((q' : Int) + 1)) ∧ w'.cell? ⟨w.heap.size, 2, none⟩ = some (.int .i64 k) ∧ w'.cell? ⟨w.heap.size, 3, none⟩ = some (.int .i64 0) ∧
            w'.cell? ⟨w.heap.size + 1 + 1 + 1, 0, none⟩ = some (.int .i64 5) ∧ w'.cell? ⟨w.heap.size + 1 + 1 + 1, 1, none⟩ = some (.int .i64 0) ∧ w'.cell? ⟨w.heap.size + 1 + 1 + 1, 2, none⟩ = some (.string ⟨#[]⟩) ∧ w'.cell? ⟨w.heap.size + 1 + 1 + 1, 3, none⟩ = some (.slice Ar kids7.length cr) ∧ w'.cell? ⟨w.heap.size + 1 + 1 + 1, 4, none⟩ = some (.slice none 0 0)) (go_keep) (fail)
          all_goals
            go_wp2
            refine bodyPost_ret (v := .tuple #[.agg #[.int .i64 5, .int .i64 0, .string ⟨#[]⟩, .slice Ar kids7.length cr, .slice none 0 0], .agg (txC A l.length cap ((q' : Int) + 1) k 0)]) (by simp only [results, Tryd.results59]; go_simp) rfl ?_
            refine ⟨.ok (.mk 5 0 [] (kids ++ [v]) []) (q' + 1) k, HC.out _ (by rw [← HQ'.out]; exact .close HR1.out (by rw [HQ'.out]; exact H93'.out)), (HX.out.out _ _ _ _ _ _ _ _ _).drew, by omega, hqn, hk, _, rfl, ?_⟩
            rw [HK7.out]
            exact ((ls_vr (lo := w.heap.size + 1 + 1 + 1 + 1) HO3.out HV3.out (Nat.le_refl _)).keep (out_keep (g := w.heap.size) (fun b hb => by omega) _ _ _ _ _ _ _ _ _)).mono fun b _ hb => by omega
        · refine (HS.out 93 93 rfl false q' k (decide_eq_false h93') _ hql' HL9.out.1.2.2.2).mono ?_
          rintro e1 w10 ⟨rfl, hb10⟩
          have hx := HL9.out.keep hb10
          have HO10 := Lib.hid (ownBel HO9.out hb10)
          have HV10 := Lib.hid (HV9.out.below hb10)
          have H93' := Lib.hid h93'
          obtain ⟨⟨h10, h11, h12, h13⟩, ⟨f1, l1⟩, ⟨c2, f2, l2⟩, c3, f3, l3⟩ := hx.1.facts
          have HX := Lib.hid hx
          clear hx h93' HL9 HO9 HV9 hb10
          go_wp2_with fail
          by_cases h44 : l[q']? = some 44
          · refine (HS.out 44 44 rfl true q' k (decide_eq_true h44) _ hql' HX.out.1.2.2.2).mono ?_
            rintro e1 w11 ⟨rfl, hb11⟩
            have hx := HX.out.keep hb11
            have HO11 := Lib.hid (ownBel HO10.out hb11)
            have HV11 := Lib.hid (HV10.out.below hb11)
            have H44 := Lib.hid h44
            have hqn : q' < l.length := get_lt h44
            clear h10 h11 h12 h13 f1 l1 c2 f2 l2 c3 f3 l3 HX HO10 HV10 h44 hb11
            obtain ⟨⟨h10, h11, h12, h13⟩, ⟨f1, l1⟩, ⟨c2, f2, l2⟩, c3, f3, l3⟩ := hx.1.facts
            have HX := Lib.hid hx
            clear hx
            go_wp2
            go_roundg (l.length + 1 - (q' + 1))
            case measure => rw [HG.out]; omega
            case rel =>
              refine ⟨q' + 1, k, kids7, css7, .slice Ar kids7.length cr, hqn, by omega, hk, by omega, rfl, Lib.hid (HX.out.set1 _), Lib.hid ?_, Lib.hid ?_, Lib.hid ?_⟩
              · exact HO11.out.kept (gb_setCell (gb_refl w11 (some w.heap.size)) _ _) (.inr (fun e => by have := (HO11.out.lt _ e).1; omega))
              · exact HV11.out.keep (KeepF.refl.set (fun b hb => by have := hb.1; omega) 1 _)
              · intro r hr2
                refine HC.out r (.comma HR1.out (by rw [HQ'.out]; exact H44.out) ?_)
                rw [HQ'.out, HK7.out]; exact hr2
          · refine (HS.out 44 44 rfl false q' k (decide_eq_false h44) _ hql' HX.out.1.2.2.2).mono ?_
            rintro e1 w11 ⟨rfl, hb11⟩
            have hx := HX.out.keep hb11
            have H44 := Lib.hid h44
            clear h10 h11 h12 h13 f1 l1 c2 f2 l2 c3 f3 l3 HX HO10 HV10 h44 hb11
            obtain ⟨⟨h10, h11, h12, h13⟩, ⟨f1, l1⟩, ⟨c2, f2, l2⟩, c3, f3, l3⟩ := hx.1.facts
            have HX := Lib.hid hx
            clear hx
            obtain ⟨fp, fe, hf⟩ : ∃ fp fe, failF l q' 7 = (fp, fe) := ⟨_, _, rfl⟩
            have hfl := fun W => t5fail_any A l cap q' k 0 7 q' W hql' hlen
            rw [hf] at hfl
            have HFL := Lib.hid hfl
            have hfe : fe ≠ 0 := by have := failF_ne (l := l) (p := (q' : Int)) (e := 7) (by decide); rw [hf] at this; exact this
            have HF := Lib.hid hf
            clear hfl hf
            go_wp2_with fail
            refine (HFL.out _).mono ?_
            rintro e1 w12 ⟨rfl, hb12⟩
            have hx := HX.out.keep hb12
            clear h10 h11 h12 h13 f1 l1 c2 f2 l2 c3 f3 l3 HX hb12
            obtain ⟨⟨h10, h11, h12, h13⟩, ⟨f1, l1⟩, ⟨c2, f2, l2⟩, c3, f3, l3⟩ := hx.1.facts
            have HX := Lib.hid hx
            clear hx
            go_wp2
            refine bodyPost_ret (v := .tuple #[.agg zVal, .agg (txC A l.length cap fp k fe)]) (by simp only [results, Tryd.results59]; go_simp) rfl ?_
            refine ⟨.err fp fe, HC.out _ ?_, HX.out.out _ _ _ _ _ _ _ _ _, hfe, k, rfl⟩
            have h := LsR.bad (l := l) (kids := kids) HR1.out (by rw [HQ'.out]; exact H93'.out) (by rw [HQ'.out]; exact H44.out)
            rw [HQ'.out] at h
            unfold rFail at h
            rw [HF.out] at h
            exact h
end Go.Proofs.YtalhoacancbldaaDoor
