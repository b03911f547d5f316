/- The iterator vlex tokens$1: its walk. -/
import Derived.Test.YtalhoacancbldaaDoorVlex9
import Derived.Sort.LoopGhostIn
import Derived.Deep.DeepCutAuto
import Derived.Deep.CutBlock
namespace Go.Proofs.YtalhoacancbldaaDoor
set_option linter.unusedVariables false
set_option linter.unusedSimpArgs false
open Go.RowKit Go.Shelf
attribute [local go_sem] run_index_arr run_part_agg run_part_one run_field_agg Oper.semAt_some

/-- the iterator's own steps: the reader turns; what is new -/
def StV (g : Nat) (A : Option Addr) (cap : Nat) (l : List UInt8) (X Y : World) : Prop := World.grownBy X Y (some g) ∧ ((∃ p why, VB X g A cap l p why) → ∃ p why, VB Y g A cap l p why)
theorem StV.of_below {g : Nat} {A : Option Addr} {cap : Nat} {l : List UInt8} {X Y : World} (h : Below X.heap.size X Y) : StV g A cap l X Y :=
  ⟨⟨h.os, h.tape, h.output, h.size, fun i hi _ => h.block i hi⟩, fun ⟨p, why, hv⟩ => ⟨p, why, hv.keep h⟩⟩
theorem StV.of_step {g : Nat} {A : Option Addr} {cap : Nat} {l : List UInt8} {X Y : World} {p why : Int} (h : VStep X g A cap l p why Y) : StV g A cap l X Y := ⟨h.2, fun _ => ⟨p, why, h.1⟩⟩
def encT (x : VTok) : Array Value := #[tokV x.1 x.2.1 ⟨x.2.2.1.toArray⟩ x.2.2.2]
def KpV (B0 g rb wb : Nat) : World → World → Prop := KeepOn fun k => k < B0 ∨ k = g ∨ k = rb ∨ k = wb
def DoneV (g : Nat) (A : Option Addr) (cap : Nat) (l : List UInt8) (p0 : Nat) (xs : List VTok) (W : World) : Prop :=
  xs = (vToks l p0).1 ∧ ∃ q er : Int, VB W g A cap l q er ∧ (vToks l p0).2 = if er = 0 then none else some (q, er)
theorem VB.keepOn {S : Nat → Prop} {w W : World} {g : Nat} {A : Option Addr} {cap : Nat} {l : List UInt8} {p why : Int} (h : VB w g A cap l p why) (k : KeepOn S w W) (hg : S g) (hr : Rd W A (byteV l)) : VB W g A cap l p why := ⟨k.blk h.1 hg, hr⟩

set_option maxRecDepth 100000 in
set_option maxHeartbeats 8000000 in
theorem tokens1_any (w0 : World) (g rb wb : Nat) (A : Option Addr) (cap : Nat) (l : List UInt8) (p0 : Nat) (k : Nat) (J Jx : List VTok → World → Prop) (W : World) (hG : GOK w0) (hr : Rd w0 A (byteV l)) (hcap : l.length ≤ cap) (hlen : l.length ≤ 1048576)
    (hp0 : p0 ≤ l.length) (hgr : g ≠ rb) (hgw : g ≠ wb) (hg0 : w0.heap.size ≤ g) (hW : KeepOn (· < w0.heap.size) w0 W)
    (hJ : ∀ s X Y, StV g A cap l X Y → J s X → J s Y)
    (hY : ∀ pre x W1, J pre W1 → pre ++ [x] <+: (vToks l p0).1 → YieldAt Fence.wide 1 Tryd.prog k (encT x) W1 fun e W' =>
      (e = .returned (.bool true) ∧ J (pre ++ [x]) W' ∧ KpV w0.heap.size g rb wb W1 W') ∨ (e = .returned (.bool false) ∧ Jx (pre ++ [x]) W' ∧ KpV w0.heap.size g rb wb W1 W'))
    (hV : VB W g A cap l p0 0) (hrb : Blk W rb 60 #[.pointer (some ⟨g, 0, none⟩)]) (hwb : Blk W wb 98 (waysC g)) (h0 : J [] W) :
    CallsIn Fence.wide 2 Tryd.prog 72 #[.func (.yield k) #[] #[], .pointer (some ⟨rb, 0, none⟩), .pointer (some ⟨wb, 0, none⟩)] W fun e W' => (∃ v, e = .returned v) ∧
      ((∃ xs, DoneV g A cap l p0 xs W' ∧ J xs W') ∨ (∃ pre, pre <+: (vToks l p0).1 ∧ Jx pre W')) := by
  have HY := Lib.hid hY
  have HJ := Lib.hid hJ
  have HP := Lib.hid (pass_any W g A cap l p0 0 hV hp0 hcap hlen)
  clear hY hJ
  obtain ⟨c1, f1, l1⟩ := hrb.rules
  refine callsIn_of_wp Tryd.func72 rfl trivial ?_ rfl
  simp only [Tryd.ntmps72, List.size_toArray, List.length_cons, List.length_nil, Nat.reduceAdd, Nat.reduceSub, Array.replicate_succ, Array.replicate_zero, List.push_toArray, List.append_toArray, List.nil_append, List.cons_append]
  gi_wp2
  refine ⟨trivial, CallsIn.mono (callsIn_wide.2 HP.out) ?_⟩
  rintro e w1 ⟨rfl, hst1⟩
  have hrb1 := hrb.grown hst1.2 (by simpa using hgr.symm)
  have hwb1 := hwb.grown hst1.2 (by simpa using hgw.symm)
  have hW1 : KeepOn (· < w0.heap.size) w0 w1 := hW.trans ⟨hst1.2.size, fun i hi => hst1.2.block i (Nat.lt_of_lt_of_le hi hW.1) (by simp; omega)⟩
  have hJ1 := HJ.out _ _ _ (StV.of_step hst1) h0
  have hV1 := hst1.1
  clear hrb hwb hW h0 hV hst1 HP c1 f1 l1
  gi_wp2
  gi_loopg [4] (l.length - p0 + 1) (fun gk _ wr => ∃ (p : Nat) (pre : List VTok), skipB l p ≤ l.length ∧ gk = l.length - p + 1 ∧ p ≤ l.length ∧ (vToks l p0).1 = pre ++ (vToks l p).1 ∧ (vToks l p0).2 = (vToks l p).2 ∧ J pre wr ∧ VB wr g A cap l (skipB l p) 0 ∧
    Blk wr rb 60 #[.pointer (some ⟨g, 0, none⟩)] ∧ Blk wr wb 98 (waysC g) ∧ KeepOn (· < w0.heap.size) w0 wr)
  case atStart => exact ⟨p0, [], skipB_le hp0, rfl, hp0, rfl, rfl, hJ1, hV1, hrb1, hwb1, hW1⟩
  case round =>
    obtain ⟨p, pre, hq, hgk, hp, hpre, hend, hJs, hV, hrb, hwb, hK⟩ := hrel
    clear hV1 hrb1 hwb1 hW1 hJ1
    obtain ⟨wo, rfl⟩ : ∃ wo : World, wo = wr := ⟨_, rfl⟩
    obtain ⟨c1, f1, l1⟩ := hrb.rules
    obtain ⟨c2, f2, l2⟩ := hwb.rules
    obtain ⟨c3, f3, l3⟩ := hV.1.rules
    unfold vCells at c3
    unfold waysC at c2
    have HQ := Lib.hid hq
    have HGK := Lib.hid hgk
    have HPRE := Lib.hid hpre
    have HEND := Lib.hid hend
    clear hq hgk hpre hend
    obtain ⟨q, hqq⟩ : ∃ q, skipB l p = q := ⟨_, rfl⟩
    have HQQ := Lib.hid hqq
    rw [hqq] at hV c3
    clear hqq
    by_cases hlt : q < l.length
    · obtain ⟨c, hc⟩ : ∃ c, l[q]? = some c := ⟨_, List.getElem?_eq_getElem hlt⟩
      have HC := Lib.hid hc
      clear hc
      gi_wp2
      refine wpIn_wide.2 ?_
      go_quiet (fail)
      gi_wp2
      refine wpIn_wide.2 ?_
      go_step3
      go_wp2
      go_step3
      obtain ⟨W2, hW2⟩ : ∃ W2, (wo.drewN nq).alloc (.cells #[.int .i64 0, .int .i64 0, .string ⟨#[]⟩, .int .i64 0] 30) = W2 := ⟨_, rfl⟩
      have hb2 : Below wo.heap.size wo W2 := by rw [← hW2]; exact (bel_drewN (Below.refl _ wo) nq).alloc (Nat.le_refl _) _
      have ht2 : Blk W2 wo.heap.size 30 #[.int .i64 0, .int .i64 0, .string ⟨#[]⟩, .int .i64 0] := by rw [← hW2]; exact Blk.new (wo.drewN nq) _ _
      rw [hW2]
      have HB2 := Lib.hid (And.intro hb2 ht2)
      clear hW2 c1 f1 l1 c2 f2 l2 c3 f3 l3 hb2 ht2
      have HWR := Lib.hid (And.intro hJs (And.intro hV (And.intro hrb (And.intro hwb hK))))
      clear hJs hV hrb hwb hK
      obtain ⟨cw, fw, lw⟩ := (HWR.out.2.2.2.1.keep HB2.out.1).rules
      unfold waysC at cw
      go_upto_block 2 with fail
      go_cut [4] (fun s4 wx => ∃ (a bb : Int) (s : ByteArray) (d m y : Int), s4 = .pointer (some ⟨wo.heap.size, 0, none⟩) ∧ Hid ((a, bb, s, d, m, y) = tokR (vTake l q) q) ∧ Blk wx wo.heap.size 30 #[.int .i64 a, .int .i64 bb, .string s, .int .i64 d] ∧ VB wx g A cap l m y ∧ wo.grownBy wx (some g))
      case first =>
        clear cw fw lw
        have hV0 := HWR.out.2.1
        obtain ⟨b, o, rfl, hbb, hx0⟩ := hV0.byte HC.out
        have hGw : GOK wo := hG.keepOn HWR.out.2.2.2.2 (fun i h => h)
        have hk3 := kindC_le c
        have hvk := vTake_kind HC.out
        have hgl := hV0.1.lt
        have hl0 : ∀ w, Calls Tryd.prog 44 #[.int .u8 (c.toNat : Int)] w fun e w' => e = .returned (.bool (isLetter c)) ∧ w = w' := fun w => letter_any c.toNat w
        have hl1 : ∀ w, Calls Tryd.prog 45 #[.int .u8 (c.toNat : Int)] w fun e w' => e = .returned (.bool (isDig c)) ∧ w = w' := fun w => digit_any c.toNat w
        have hl2 : ∀ w, Calls Tryd.prog 68 #[.int .u8 (c.toNat : Int)] w fun e w' => e = .returned (.bool (decide (c.toNat = 34))) ∧ w = w' := fun w => mark_any c.toNat w
        have hl3 : ∀ w, Calls Tryd.prog 70 #[.int .u8 (c.toNat : Int)] w fun e w' => e = .returned (.bool true) ∧ w = w' := fun w => every_any c.toNat w
        have HVK := Lib.hid hvk
        have HL := Lib.hid (And.intro hl0 (And.intro hl1 (And.intro hl2 hl3)))
        have HX0 := Lib.hid hx0
        have HVG := Lib.hid (And.intro hV0 hGw)
        clear hvk hl0 hl1 hl2 hl3 hx0 hV0 hGw
        go_wp2
        go_loopg [23] 4 (fun gk i wr => ∃ k : Nat, k ≤ kindC c ∧ gk = 4 - k ∧ i = .int .i64 k ∧ Below wo.heap.size wo wr ∧ Blk wr wo.heap.size 30 #[.int .i64 0, .int .i64 0, .string ⟨#[]⟩, .int .i64 0])
        case atStart => exact ⟨0, Nat.zero_le _, rfl, rfl, HB2.out.1, HB2.out.2⟩
        case round =>
          obtain ⟨k, hk, hgk, rfl, hbx, htx⟩ := hrel
          obtain ⟨c1, f1, l1⟩ := (HWR.out.2.2.1.keep hbx).rules
          have hVx := HVG.out.1.keep hbx
          obtain ⟨c3, f3, l3⟩ := hVx.1.rules
          unfold vCells at c3
          have hx : wr.cell? ⟨b, o + q, none⟩ = some (.int .u8 c.toNat) := (hbx.cell (p := ⟨b, o + q, none⟩) hbb).trans HX0.out
          have hb3 : b < wr.heap.size := Nat.lt_of_lt_of_le hbb hbx.size
          have HGK2 := Lib.hid hgk
          have HT := Lib.hid (And.intro htx hVx)
          clear hgk htx hVx
          rcases (by omega : k = 0 ∨ k = 1 ∨ k = 2 ∨ k = 3) with rfl | rfl | rfl | rfl
          · by_cases hkk : kindC c = 0
            · obtain ⟨a, bb, s, d, m, y, hR, hN⟩ := take_uni (A := some ⟨b, o, none⟩) (fk := 66) (vName l q) (fun W hG hV => name_any W g _ cap l q hV hlt hcap hlen)
              have hv : vTake l q = vName l q := by rw [HVK.out, hkk]; rfl
              rw [← hv] at hR
              have hlt2 := HL.out.1
              rw [show isLetter c = true from kind_0 hkk] at hlt2
              have HR := Lib.hid hR
              have HN := Lib.hid hN
              have HLT := Lib.hid hlt2
              clear hv hR hN hlt2
              go_wp2
              go_quiet ((go_at_call 44; exact Calls.quiet_of_same ((HLT.out _).mono fun e w' h => ⟨h.1, h.2.symm⟩)))
              obtain ⟨W5, hW5⟩ : ∃ W5, (wr.alloc (.cells #[.func (.func 44) #[] #[], .func (.func 66) #[.pointer (some ⟨g, 0, none⟩)] #[]] 97)).drewN nq = W5 := ⟨_, rfl⟩
              have hb5 : Below wo.heap.size wo W5 := by rw [← hW5]; exact bel_drewN (hbx.alloc hbx.size _) _
              have ht5 : Blk W5 wo.heap.size 30 #[.int .i64 0, .int .i64 0, .string ⟨#[]⟩, .int .i64 0] := by rw [← hW5]; exact (HT.out.1.alloc _).drewN _
              have hw5 : Blk W5 wr.heap.size 97 #[.func (.func 44) #[] #[], .func (.func 66) #[.pointer (some ⟨g, 0, none⟩)] #[]] := by rw [← hW5]; exact (Blk.new wr _ _).drewN _
              rw [hW5]
              have H5 := Lib.hid (And.intro hb5 ht5)
              have HC5 := Lib.hid (HN.out W5 (HVG.out.2.keep hb5) (HVG.out.1.keep hb5))
              clear hW5 hb5 ht5 c1 f1 l1 c3 f3 l3 hx hb3
              obtain ⟨c6, f6, l6⟩ := hw5.rules
              go_wp2_with (go_at_call 66; refine HC5.out.mono ?_; rintro e w6 ⟨rfl, hst⟩; have ht6 := H5.out.2.grown hst.2 (by simp; omega); obtain ⟨c7, f7, l7⟩ := ht6.rules)
              go_meet
              case rel =>
                have hstR := (((VStep.refl HVG.out.1).keep H5.out.1).trans hst).put4 ht6 (Nat.le_refl _) hgl (.int .i64 a) (.int .i64 bb) (.string s) (.int .i64 d)
                exact ⟨a, bb, s, d, m, y, rfl, HR, ht6.put4 _ _ _ _, hstR.1, hstR.2⟩
            · have hlt2 := HL.out.1
              rw [show isLetter c = false from kind_0n hkk] at hlt2
              have HLT := Lib.hid hlt2
              clear hlt2
              go_wp2
              go_quiet ((go_at_call 44; exact Calls.quiet_of_same ((HLT.out _).mono fun e w' h => ⟨h.1, h.2.symm⟩)))
              go_wp2
              go_roundg (4 - 1)
              case measure => rw [HGK2.out]; omega
              case rel => exact ⟨1, by omega, rfl, rfl, bel_drewN (hbx.alloc hbx.size _) _, (HT.out.1.alloc _).drewN _⟩
          · by_cases hkk : kindC c = 1
            · obtain ⟨a, bb, s, d, m, y, hR, hN⟩ := take_uni (A := some ⟨b, o, none⟩) (fk := 67) (vNumber l q) (fun W hG hV => number_any W g _ cap l q hV hlt hcap hlen)
              have hv : vTake l q = vNumber l q := by rw [HVK.out, hkk]; rfl
              rw [← hv] at hR
              have hlt2 := HL.out.2.1
              rw [show isDig c = true from kind_1 hkk] at hlt2
              have HR := Lib.hid hR
              have HN := Lib.hid hN
              have HLT := Lib.hid hlt2
              clear hv hR hN hlt2
              go_wp2
              go_quiet ((go_at_call 45; exact Calls.quiet_of_same ((HLT.out _).mono fun e w' h => ⟨h.1, h.2.symm⟩)))
              obtain ⟨W5, hW5⟩ : ∃ W5, (wr.alloc (.cells #[.func (.func 45) #[] #[], .func (.func 67) #[.pointer (some ⟨g, 0, none⟩)] #[]] 97)).drewN nq = W5 := ⟨_, rfl⟩
              have hb5 : Below wo.heap.size wo W5 := by rw [← hW5]; exact bel_drewN (hbx.alloc hbx.size _) _
              have ht5 : Blk W5 wo.heap.size 30 #[.int .i64 0, .int .i64 0, .string ⟨#[]⟩, .int .i64 0] := by rw [← hW5]; exact (HT.out.1.alloc _).drewN _
              have hw5 : Blk W5 wr.heap.size 97 #[.func (.func 45) #[] #[], .func (.func 67) #[.pointer (some ⟨g, 0, none⟩)] #[]] := by rw [← hW5]; exact (Blk.new wr _ _).drewN _
              rw [hW5]
              have H5 := Lib.hid (And.intro hb5 ht5)
              have HC5 := Lib.hid (HN.out W5 (HVG.out.2.keep hb5) (HVG.out.1.keep hb5))
              clear hW5 hb5 ht5 c1 f1 l1 c3 f3 l3 hx hb3
              obtain ⟨c6, f6, l6⟩ := hw5.rules
              go_wp2_with (go_at_call 67; refine HC5.out.mono ?_; rintro e w6 ⟨rfl, hst⟩; have ht6 := H5.out.2.grown hst.2 (by simp; omega); obtain ⟨c7, f7, l7⟩ := ht6.rules)
              go_meet
              case rel =>
                have hstR := (((VStep.refl HVG.out.1).keep H5.out.1).trans hst).put4 ht6 (Nat.le_refl _) hgl (.int .i64 a) (.int .i64 bb) (.string s) (.int .i64 d)
                exact ⟨a, bb, s, d, m, y, rfl, HR, ht6.put4 _ _ _ _, hstR.1, hstR.2⟩
            · have hlt2 := HL.out.2.1
              rw [show isDig c = false from kind_1n hkk (by omega)] at hlt2
              have HLT := Lib.hid hlt2
              clear hlt2
              go_wp2
              go_quiet ((go_at_call 45; exact Calls.quiet_of_same ((HLT.out _).mono fun e w' h => ⟨h.1, h.2.symm⟩)))
              go_wp2
              go_roundg (4 - 2)
              case measure => rw [HGK2.out]; omega
              case rel => exact ⟨2, by omega, rfl, rfl, bel_drewN (hbx.alloc hbx.size _) _, (HT.out.1.alloc _).drewN _⟩
          · by_cases hkk : kindC c = 2
            · obtain ⟨a, bb, s, d, m, y, hR, hN⟩ := take_uni (A := some ⟨b, o, none⟩) (fk := 69) (vText l q) (fun W hG hV => text_any W g _ cap l q hG hV hlt hcap hlen)
              have hv : vTake l q = vText l q := by rw [HVK.out, hkk]; rfl
              rw [← hv] at hR
              have hlt2 := HL.out.2.2.1
              rw [show decide (c.toNat = 34) = true from kind_2 hkk] at hlt2
              have HR := Lib.hid hR
              have HN := Lib.hid hN
              have HLT := Lib.hid hlt2
              clear hv hR hN hlt2
              go_wp2
              go_quiet ((go_at_call 68; exact Calls.quiet_of_same ((HLT.out _).mono fun e w' h => ⟨h.1, h.2.symm⟩)))
              obtain ⟨W5, hW5⟩ : ∃ W5, (wr.alloc (.cells #[.func (.func 68) #[] #[], .func (.func 69) #[.pointer (some ⟨g, 0, none⟩)] #[]] 97)).drewN nq = W5 := ⟨_, rfl⟩
              have hb5 : Below wo.heap.size wo W5 := by rw [← hW5]; exact bel_drewN (hbx.alloc hbx.size _) _
              have ht5 : Blk W5 wo.heap.size 30 #[.int .i64 0, .int .i64 0, .string ⟨#[]⟩, .int .i64 0] := by rw [← hW5]; exact (HT.out.1.alloc _).drewN _
              have hw5 : Blk W5 wr.heap.size 97 #[.func (.func 68) #[] #[], .func (.func 69) #[.pointer (some ⟨g, 0, none⟩)] #[]] := by rw [← hW5]; exact (Blk.new wr _ _).drewN _
              rw [hW5]
              have H5 := Lib.hid (And.intro hb5 ht5)
              have HC5 := Lib.hid (HN.out W5 (HVG.out.2.keep hb5) (HVG.out.1.keep hb5))
              clear hW5 hb5 ht5 c1 f1 l1 c3 f3 l3 hx hb3
              obtain ⟨c6, f6, l6⟩ := hw5.rules
              go_wp2_with (go_at_call 69; refine HC5.out.mono ?_; rintro e w6 ⟨rfl, hst⟩; have ht6 := H5.out.2.grown hst.2 (by simp; omega); obtain ⟨c7, f7, l7⟩ := ht6.rules)
              go_meet
              case rel =>
                have hstR := (((VStep.refl HVG.out.1).keep H5.out.1).trans hst).put4 ht6 (Nat.le_refl _) hgl (.int .i64 a) (.int .i64 bb) (.string s) (.int .i64 d)
                exact ⟨a, bb, s, d, m, y, rfl, HR, ht6.put4 _ _ _ _, hstR.1, hstR.2⟩
            · have hlt2 := HL.out.2.2.1
              rw [show decide (c.toNat = 34) = false from kind_2n hkk (by omega) (by omega)] at hlt2
              have HLT := Lib.hid hlt2
              clear hlt2
              go_wp2
              go_quiet ((go_at_call 68; exact Calls.quiet_of_same ((HLT.out _).mono fun e w' h => ⟨h.1, h.2.symm⟩)))
              go_wp2
              go_roundg (4 - 3)
              case measure => rw [HGK2.out]; omega
              case rel => exact ⟨3, by omega, rfl, rfl, bel_drewN (hbx.alloc hbx.size _) _, (HT.out.1.alloc _).drewN _⟩
          · by_cases hkk : kindC c = 3
            · obtain ⟨a, bb, s, d, m, y, hR, hN⟩ := take_uni (A := some ⟨b, o, none⟩) (fk := 71) (vSign l q) (fun W hG hV => vsign_any W g _ cap l q hV hlt hcap hlen)
              have hv : vTake l q = vSign l q := by rw [HVK.out, hkk]; rfl
              rw [← hv] at hR
              have hlt2 := HL.out.2.2.2
              have HR := Lib.hid hR
              have HN := Lib.hid hN
              have HLT := Lib.hid hlt2
              clear hv hR hN hlt2
              go_wp2
              go_quiet ((go_at_call 70; exact Calls.quiet_of_same ((HLT.out _).mono fun e w' h => ⟨h.1, h.2.symm⟩)))
              obtain ⟨W5, hW5⟩ : ∃ W5, (wr.alloc (.cells #[.func (.func 70) #[] #[], .func (.func 71) #[.pointer (some ⟨g, 0, none⟩)] #[]] 97)).drewN nq = W5 := ⟨_, rfl⟩
              have hb5 : Below wo.heap.size wo W5 := by rw [← hW5]; exact bel_drewN (hbx.alloc hbx.size _) _
              have ht5 : Blk W5 wo.heap.size 30 #[.int .i64 0, .int .i64 0, .string ⟨#[]⟩, .int .i64 0] := by rw [← hW5]; exact (HT.out.1.alloc _).drewN _
              have hw5 : Blk W5 wr.heap.size 97 #[.func (.func 70) #[] #[], .func (.func 71) #[.pointer (some ⟨g, 0, none⟩)] #[]] := by rw [← hW5]; exact (Blk.new wr _ _).drewN _
              rw [hW5]
              have H5 := Lib.hid (And.intro hb5 ht5)
              have HC5 := Lib.hid (HN.out W5 (HVG.out.2.keep hb5) (HVG.out.1.keep hb5))
              clear hW5 hb5 ht5 c1 f1 l1 c3 f3 l3 hx hb3
              obtain ⟨c6, f6, l6⟩ := hw5.rules
              go_wp2_with (go_at_call 71; refine HC5.out.mono ?_; rintro e w6 ⟨rfl, hst⟩; have ht6 := H5.out.2.grown hst.2 (by simp; omega); obtain ⟨c7, f7, l7⟩ := ht6.rules)
              go_meet
              case rel =>
                have hstR := (((VStep.refl HVG.out.1).keep H5.out.1).trans hst).put4 ht6 (Nat.le_refl _) hgl (.int .i64 a) (.int .i64 bb) (.string s) (.int .i64 d)
                exact ⟨a, bb, s, d, m, y, rfl, HR, ht6.put4 _ _ _ _, hstR.1, hstR.2⟩
            · omega
      case rest =>
        obtain ⟨a, bb, s, d, m, y, rfl, HR, htb, hV3, hg3⟩ := hcut
        obtain ⟨hJs, hV, hrb, hwb, hK⟩ := HWR.out
        have hrb3 := hrb.grown hg3 (by simpa using hgr.symm)
        have hwb3 := hwb.grown hg3 (by simpa using hgw.symm)
        have hK3 : KeepOn (· < w0.heap.size) w0 wc := hK.trans ⟨hg3.size, fun i hi => hg3.block i (Nat.lt_of_lt_of_le hi hK.1) (by simp; omega)⟩
        have hJ3 := HJ.out _ _ _ ⟨hg3, fun _ => ⟨m, y, hV3⟩⟩ hJs
        clear hJs hV hrb hwb hK HB2 cw fw lw HWR W2
        obtain ⟨c1, f1, l1⟩ := hrb3.rules
        obtain ⟨c3, f3, l3⟩ := hV3.1.rules
        obtain ⟨c4, f4, l4⟩ := htb.rules
        unfold vCells at c3
        cases hvt : vTake l q with
        | inr e =>
          obtain ⟨pq, er⟩ := e
          have her := vTake_err hlt hvt
          rw [hvt] at HR
          obtain ⟨rfl, rfl, rfl, rfl, rfl, rfl⟩ : a = 0 ∧ bb = 0 ∧ s = ⟨#[]⟩ ∧ d = 0 ∧ m = pq ∧ y = er := by simpa [tokR] using HR.out
          have hE := vToks_err hp (by rw [HQQ.out]; exact hlt) (by rw [HQQ.out]; exact hvt)
          have HEE := Lib.hid hE
          have HRR := Lib.hid hvt
          have her' : (y != 0) = true := by simpa using her
          clear hE hvt HR
          go_wp2
          rw [Exit.noGoto_ret]
          gi_wp2
          refine bodyPost_ret (results_none rfl _ _ _) rfl ?_
          refine ⟨⟨_, rfl⟩, .inl ⟨pre, ⟨?_, m, y, hV3, ?_⟩, hJ3⟩⟩
          · rw [HPRE.out, HEE.out, List.append_nil]
          · rw [HEND.out, HEE.out, if_neg her]
        | inl r =>
          obtain ⟨kd, t, n, m'⟩ := r
          rw [hvt] at HR
          obtain ⟨rfl, rfl, rfl, rfl, rfl, rfl⟩ : a = kd ∧ bb = q ∧ s = ⟨t.toArray⟩ ∧ d = n ∧ m = m' ∧ y = 0 := by simpa [tokR] using HR.out
          have hok := vTake_ok hlt hvt
          have hE := vToks_tok hp (by rw [HQQ.out]; exact hlt) (by rw [HQQ.out]; exact hvt)
          have HEE := Lib.hid hE
          have HRR := Lib.hid hvt
          clear hE hvt HR
          have hadm : pre ++ [(a, q, t, d)] <+: (vToks l p0).1 := by rw [HPRE.out, HEE.out, HQQ.out]; exact ⟨(vToks l m').1, by simp⟩
          obtain ⟨fn, tmps, assign, body, hy, hR⟩ := HY.out pre _ wc hJ3 hadm
          have HAD := Lib.hid hadm
          clear hadm
          unfold encT tokV at hy
          simp only at hy
          go_upto_region 10 with fail
          refine (wpIn_wide (n := 2)).1 ?_
          gi_wp2
          refine hR.mono ?_
          rintro e W4 (⟨rfl, hJ4, hk4⟩ | ⟨rfl, hJx4, hk4⟩)
          · have hrb4 := hk4.blk hrb3 (.inr (.inr (.inl rfl)))
            have hwb4 := hk4.blk hwb3 (.inr (.inr (.inr rfl)))
            have hK4 : KeepOn (· < w0.heap.size) w0 W4 := hK3.trans ⟨hk4.1, fun i hi => hk4.2 i (.inl hi)⟩
            have hV4 := hV3.keepOn hk4 (.inr (.inl rfl)) (hr.keepOn hK4 (fun i h => h))
            have HP4 := Lib.hid (pass_any W4 g A cap l m' 0 hV4 hok.2 hcap hlen)
            obtain ⟨c5, f5, l5⟩ := hrb4.rules
            clear c1 f1 l1 c3 f3 l3 c4 f4 l4
            gi_wp2
            go_wp2
            rw [Exit.noGoto_normal]
            gi_wp2
            refine ⟨trivial, CallsIn.mono (callsIn_wide.2 HP4.out) ?_⟩
            rintro e w5 ⟨rfl, hst5⟩
            have hrb5 := hrb4.grown hst5.2 (by simpa using hgr.symm)
            have hwb5 := hwb4.grown hst5.2 (by simpa using hgw.symm)
            have hK5 : KeepOn (· < w0.heap.size) w0 w5 := hK4.trans ⟨hst5.2.size, fun i hi => hst5.2.block i (Nat.lt_of_lt_of_le hi hK4.1) (by simp; omega)⟩
            have hJ5 := HJ.out _ _ _ (StV.of_step hst5) hJ4
            gi_wp2
            gi_roundg (l.length - m' + 1)
            case measure => rw [HGK.out]; have := skipB_ge l p; have := HQQ.out; omega
            case rel => exact ⟨m', pre ++ [(a, q, t, d)], skipB_le hok.2, rfl, hok.2, by rw [HPRE.out, HEE.out, HQQ.out]; simp, by rw [HEND.out, HEE.out], hJ5, hst5.1, hrb5, hwb5, hK5⟩
          · gi_wp2
            go_wp2
            rw [Exit.noGoto_ret]
            gi_wp2
            refine bodyPost_ret (results_none rfl _ _ _) rfl ?_
            exact ⟨⟨_, rfl⟩, .inr ⟨_, HAD.out, hJx4⟩⟩
    · have hE := vToks_end hp (by rw [HQQ.out]; exact hlt)
      have hql := HQ.out
      rw [HQQ.out] at hql
      obtain rfl : q = l.length := by omega
      have HEE := Lib.hid hE
      have HQL := Lib.hid hql
      clear hE hlt hql
      gi_wp2
      refine wpIn_wide.2 ?_
      go_quiet (fail)
      obtain ⟨fn, tmps, assign, body, hy, hR⟩ := HY.out pre ((6, l.length, [], 0) : VTok) (wo.drewN nq) (HJ.out _ _ _ (StV.of_below (bel_drewN (Below.refl _ wo) nq)) hJs) (by rw [HPRE.out, HEE.out]; exact List.prefix_refl _)
      unfold encT tokV at hy
      simp only at hy
      gi_wp2
      refine hR.mono ?_
      rintro e W4 (⟨rfl, hJ4, hk4⟩ | ⟨rfl, hJx4, hk4⟩)
      · have hK4 : KeepOn (· < w0.heap.size) w0 W4 := hK.trans ⟨hk4.1, fun i hi => hk4.2 i (.inl hi)⟩
        have hV4 := (hV.drewN nq).keepOn hk4 (.inr (.inl rfl)) (hr.keepOn hK4 (fun i h => h))
        have HF := Lib.hid (And.intro hV4 hJ4)
        clear hK4 hV4 hk4 hJ4
        gi_wp2
        go_end0
        refine ⟨⟨_, rfl⟩, .inl ⟨_, ⟨?_, _, 0, HF.out.1, ?_⟩, HF.out.2⟩⟩
        · rw [HPRE.out, HEE.out]
        · rw [HEND.out, HEE.out, if_pos rfl]
      · gi_wp2
        go_end0
        exact ⟨⟨_, rfl⟩, .inr ⟨_, by rw [HPRE.out, HEE.out]; exact List.prefix_refl _, hJx4⟩⟩
end Go.Proofs.YtalhoacancbldaaDoor
