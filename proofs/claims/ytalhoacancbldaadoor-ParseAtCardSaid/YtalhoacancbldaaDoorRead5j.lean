import Derived.Test.YtalhoacancbldaaDoorRead5h
/- The walk of the reference davenportref05: Read, words and numerals. -/
namespace Go.Proofs.YtalhoacancbldaaDoor
set_option linter.unusedVariables false
set_option linter.unusedSimpArgs false
open Go.RowKit
attribute [local go_sem] run_index_arr run_part_agg run_part_one run_field_agg
set_option maxRecDepth 100000 in
set_option maxHeartbeats 4000000 in
theorem t5rd_null (A : Option Addr) (l : List UInt8) (cap a m d p : Nat) (w : World) (hr : Rd w A (byteV l)) (ha : a ≤ l.length) (hp : skipB l a = p) (hm : m ≤ 256) (hcap : l.length ≤ cap) (hlen : l.length ≤ 1048576)
    (hc : l[p]? = some 110) (hm2 : m ≠ 256) :
    Calls Tryd.prog 33 #[.agg (txC A l.length cap a m 0), .int .i64 d] w (RdPost A l cap a m d w) := by
  have hbg : beginsB 110 = true := by decide
  have hno : ¬ ((110 : UInt8).toNat = 91 ∨ (110 : UInt8).toNat = 123) := by decide
  have HM2 := Lib.hid hm2
  obtain ⟨m1, hm1⟩ : ∃ m1 : Nat, m + 1 = m1 := ⟨_, rfl⟩
  have hmi : ((m : Int) == 256) = false := by simp; omega
  have hadd : IntKind.i64.wrap ((m : Int) + 1) = (m1 : Int) := by rw [IntWalk.i64_in _ (by omega)]; omega
  have hm9 : m1 ≤ 256 := by omega
  have HM1 := Lib.hid hm1
  clear hm1
  clear hm2
  have hlt := get_lt hc
  have hap : a ≤ p := by rw [← hp]; exact skipB_ge l a
  obtain ⟨b, o, rfl, hbl⟩ := hr.some_ (show 0 < l.length by omega)
  have HR := Lib.hid hr
  have HX := Lib.hid (XB.new w (some ⟨b, o, none⟩) l.length cap a m)
  have hpass := t5pass_any (some ⟨b, o, none⟩) l cap a m _ (hr.below HX.out.2.2.2) ha hcap hlen
  rw [hp] at hpass
  have HPA := Lib.hid hpass
  have HP := Lib.hid hp
  have HC := Lib.hid hc
  obtain ⟨y1, y2, y3, y4, y5, y6, y7, y8, y9, y10, y11, y12⟩ := neqs w.heap.size
  have hpi : ((p : Int) == (l.length : Int)) = false := by simp; omega
  clear hr hpass hp hc
  go_enter Tryd.func33, Tryd.ntmps33
  go_wp2_with fail
  refine HPA.out.mono ?_
  rintro e1 w1 ⟨rfl, hb1⟩
  have hx := HX.out.keep hb1
  clear HX hb1 HPA
  obtain ⟨⟨h10, h11, h12, h13⟩, ⟨f1, l1⟩, ⟨c2, f2, l2⟩, c3, f3, l3⟩ := hx.facts
  have hx2 := hx.put (p : Int) m
  clear hx
  go_upto_region 2 with (fail)
  obtain ⟨W2, hW2⟩ : ∃ W2, (((w1.setCell ⟨w.heap.size, 0, none⟩ (.slice (some ⟨b, o, none⟩) l.length cap)).setCell ⟨w.heap.size, 1, none⟩ (.int .i64 p)).setCell ⟨w.heap.size, 2, none⟩ (.int .i64 m)).setCell ⟨w.heap.size, 3, none⟩ (.int .i64 0) = W2 := ⟨_, rfl⟩
  rw [hW2] at hx2 ⊢
  have HX2 := Lib.hid hx2
  have hxb := BS.at_ (n := 0) (cap := 0) (HR.out.below hx2.2.2.2) HC.out
  clear hW2 h10 h11 h12 h13 f1 l1 c2 f2 l2 c3 f3 l3
  obtain ⟨⟨h10, h11, h12, h13⟩, ⟨f1, l1⟩, ⟨c2, f2, l2⟩, c3, f3, l3⟩ := hx2.facts
  clear hx2
  obtain ⟨r, hat⟩ : ∃ r, atomJ l p 110 = r := ⟨_, rfl⟩
  have hw := fun W (h : Below w.heap.size w W) => (show Calls Tryd.prog 58 #[.agg (txC (some ⟨b, o, none⟩) l.length cap p (m1 : Int) 0), .string ⟨#[110, 117, 108, 108]⟩, .agg #[.int .i64 1, .int .i64 0, .string ⟨#[]⟩, .slice none 0 0, .slice none 0 0]] W fun e w' => At5 (some ⟨b, o, none⟩) l.length cap (m1 : Int) (wordJ l p nullT (.mk 1 0 [] [] [])) e ∧ Below W.heap.size W w' from t5word_any (some ⟨b, o, none⟩) l cap p m1 ⟨#[110, 117, 108, 108]⟩ 1 0 W (HR.out.below h) (by omega) hcap hlen (by decide))
  have hwa : wordJ l p nullT (.mk 1 0 [] [] []) = r := hat
  rw [hwa] at hw
  have HW := Lib.hid hw
  have HAT := Lib.hid hat
  clear hw hwa hat
  go_wp2_with fail
  refine (HW.out _ (HX2.out.set2 (m1 : Int)).2.2.2).mono ?_
  rintro e1 w2 ⟨hat5, hb2⟩
  have HX3 := Lib.hid ((HX2.out.set2 (m1 : Int)).keep hb2)
  clear h10 h11 h12 h13 f1 l1 c2 f2 l2 c3 f3 l3 hb2 hxb
  obtain ⟨⟨h10, h11, h12, h13⟩, ⟨f1, l1⟩, ⟨c2, f2, l2⟩, c3, f3, l3⟩ := HX3.out.facts
  cases r with
  | inl r =>
    obtain ⟨v, q⟩ := r
    obtain ⟨k, n', s, rfl, rfl⟩ := hat5
    have hok := atom_ok HAT.out (by omega)
    have hrr : RdR l a m d (.ok (.mk k n' s [] []) q (m + 1)) := by
      have h := beginJ_atom (l := l) (a := a) (m := m) (d := d) HP.out HC.out hbg HM2.out hno
      rw [HAT.out] at h
      exact .atom h
    rw [HM1.out] at hrr
    have HRR := Lib.hid hrr
    clear hrr
    go_wp2_with ((with_reducible refine bodyPost_ret (v := .tuple #[.agg (atC k n' s), .agg (txC (some ⟨b, o, none⟩) l.length cap q m1 0)]) ?_ rfl ?_); (simp only [results, Tryd.results33]; go_simp); exact ⟨.ok (.mk k n' s [] []) q m1, HRR.out, HX3.out.out _ _ _ _ _ _ _ _ _, by omega, hok.2, hm9, _, rfl, VR.atom k n' s⟩)
  | inr r =>
    obtain ⟨fp, fe⟩ := r
    obtain ⟨hfe, rfl⟩ := hat5
    have hrr : RdR l a m d (.err fp fe) := by
      have h := beginJ_atom (l := l) (a := a) (m := m) (d := d) HP.out HC.out hbg HM2.out hno
      rw [HAT.out] at h
      exact .err h
    have HRR := Lib.hid hrr
    clear hrr
    go_wp2_with ((with_reducible refine bodyPost_ret (v := .tuple #[.agg zVal, .agg (txC (some ⟨b, o, none⟩) l.length cap fp m1 fe)]) ?_ rfl ?_); (simp only [results, Tryd.results33]; go_simp); exact ⟨.err fp fe, HRR.out, HX3.out.out _ _ _ _ _ _ _ _ _, hfe, m1, rfl⟩)
set_option maxRecDepth 100000 in
set_option maxHeartbeats 4000000 in
theorem t5rd_true (A : Option Addr) (l : List UInt8) (cap a m d p : Nat) (w : World) (hr : Rd w A (byteV l)) (ha : a ≤ l.length) (hp : skipB l a = p) (hm : m ≤ 256) (hcap : l.length ≤ cap) (hlen : l.length ≤ 1048576)
    (hc : l[p]? = some 116) (hm2 : m ≠ 256) :
    Calls Tryd.prog 33 #[.agg (txC A l.length cap a m 0), .int .i64 d] w (RdPost A l cap a m d w) := by
  have hbg : beginsB 116 = true := by decide
  have hno : ¬ ((116 : UInt8).toNat = 91 ∨ (116 : UInt8).toNat = 123) := by decide
  have HM2 := Lib.hid hm2
  obtain ⟨m1, hm1⟩ : ∃ m1 : Nat, m + 1 = m1 := ⟨_, rfl⟩
  have hmi : ((m : Int) == 256) = false := by simp; omega
  have hadd : IntKind.i64.wrap ((m : Int) + 1) = (m1 : Int) := by rw [IntWalk.i64_in _ (by omega)]; omega
  have hm9 : m1 ≤ 256 := by omega
  have HM1 := Lib.hid hm1
  clear hm1
  clear hm2
  have hlt := get_lt hc
  have hap : a ≤ p := by rw [← hp]; exact skipB_ge l a
  obtain ⟨b, o, rfl, hbl⟩ := hr.some_ (show 0 < l.length by omega)
  have HR := Lib.hid hr
  have HX := Lib.hid (XB.new w (some ⟨b, o, none⟩) l.length cap a m)
  have hpass := t5pass_any (some ⟨b, o, none⟩) l cap a m _ (hr.below HX.out.2.2.2) ha hcap hlen
  rw [hp] at hpass
  have HPA := Lib.hid hpass
  have HP := Lib.hid hp
  have HC := Lib.hid hc
  obtain ⟨y1, y2, y3, y4, y5, y6, y7, y8, y9, y10, y11, y12⟩ := neqs w.heap.size
  have hpi : ((p : Int) == (l.length : Int)) = false := by simp; omega
  clear hr hpass hp hc
  go_enter Tryd.func33, Tryd.ntmps33
  go_wp2_with fail
  refine HPA.out.mono ?_
  rintro e1 w1 ⟨rfl, hb1⟩
  have hx := HX.out.keep hb1
  clear HX hb1 HPA
  obtain ⟨⟨h10, h11, h12, h13⟩, ⟨f1, l1⟩, ⟨c2, f2, l2⟩, c3, f3, l3⟩ := hx.facts
  have hx2 := hx.put (p : Int) m
  clear hx
  go_upto_region 2 with (fail)
  obtain ⟨W2, hW2⟩ : ∃ W2, (((w1.setCell ⟨w.heap.size, 0, none⟩ (.slice (some ⟨b, o, none⟩) l.length cap)).setCell ⟨w.heap.size, 1, none⟩ (.int .i64 p)).setCell ⟨w.heap.size, 2, none⟩ (.int .i64 m)).setCell ⟨w.heap.size, 3, none⟩ (.int .i64 0) = W2 := ⟨_, rfl⟩
  rw [hW2] at hx2 ⊢
  have HX2 := Lib.hid hx2
  have hxb := BS.at_ (n := 0) (cap := 0) (HR.out.below hx2.2.2.2) HC.out
  clear hW2 h10 h11 h12 h13 f1 l1 c2 f2 l2 c3 f3 l3
  obtain ⟨⟨h10, h11, h12, h13⟩, ⟨f1, l1⟩, ⟨c2, f2, l2⟩, c3, f3, l3⟩ := hx2.facts
  clear hx2
  obtain ⟨r, hat⟩ : ∃ r, atomJ l p 116 = r := ⟨_, rfl⟩
  have hw := fun W (h : Below w.heap.size w W) => (show Calls Tryd.prog 58 #[.agg (txC (some ⟨b, o, none⟩) l.length cap p (m1 : Int) 0), .string ⟨#[116, 114, 117, 101]⟩, .agg #[.int .i64 2, .int .i64 1, .string ⟨#[]⟩, .slice none 0 0, .slice none 0 0]] W fun e w' => At5 (some ⟨b, o, none⟩) l.length cap (m1 : Int) (wordJ l p trueT (.mk 2 1 [] [] [])) e ∧ Below W.heap.size W w' from t5word_any (some ⟨b, o, none⟩) l cap p m1 ⟨#[116, 114, 117, 101]⟩ 2 1 W (HR.out.below h) (by omega) hcap hlen (by decide))
  have hwa : wordJ l p trueT (.mk 2 1 [] [] []) = r := hat
  rw [hwa] at hw
  have HW := Lib.hid hw
  have HAT := Lib.hid hat
  clear hw hwa hat
  go_wp2_with fail
  refine (HW.out _ (HX2.out.set2 (m1 : Int)).2.2.2).mono ?_
  rintro e1 w2 ⟨hat5, hb2⟩
  have HX3 := Lib.hid ((HX2.out.set2 (m1 : Int)).keep hb2)
  clear h10 h11 h12 h13 f1 l1 c2 f2 l2 c3 f3 l3 hb2 hxb
  obtain ⟨⟨h10, h11, h12, h13⟩, ⟨f1, l1⟩, ⟨c2, f2, l2⟩, c3, f3, l3⟩ := HX3.out.facts
  cases r with
  | inl r =>
    obtain ⟨v, q⟩ := r
    obtain ⟨k, n', s, rfl, rfl⟩ := hat5
    have hok := atom_ok HAT.out (by omega)
    have hrr : RdR l a m d (.ok (.mk k n' s [] []) q (m + 1)) := by
      have h := beginJ_atom (l := l) (a := a) (m := m) (d := d) HP.out HC.out hbg HM2.out hno
      rw [HAT.out] at h
      exact .atom h
    rw [HM1.out] at hrr
    have HRR := Lib.hid hrr
    clear hrr
    go_wp2_with ((with_reducible refine bodyPost_ret (v := .tuple #[.agg (atC k n' s), .agg (txC (some ⟨b, o, none⟩) l.length cap q m1 0)]) ?_ rfl ?_); (simp only [results, Tryd.results33]; go_simp); exact ⟨.ok (.mk k n' s [] []) q m1, HRR.out, HX3.out.out _ _ _ _ _ _ _ _ _, by omega, hok.2, hm9, _, rfl, VR.atom k n' s⟩)
  | inr r =>
    obtain ⟨fp, fe⟩ := r
    obtain ⟨hfe, rfl⟩ := hat5
    have hrr : RdR l a m d (.err fp fe) := by
      have h := beginJ_atom (l := l) (a := a) (m := m) (d := d) HP.out HC.out hbg HM2.out hno
      rw [HAT.out] at h
      exact .err h
    have HRR := Lib.hid hrr
    clear hrr
    go_wp2_with ((with_reducible refine bodyPost_ret (v := .tuple #[.agg zVal, .agg (txC (some ⟨b, o, none⟩) l.length cap fp m1 fe)]) ?_ rfl ?_); (simp only [results, Tryd.results33]; go_simp); exact ⟨.err fp fe, HRR.out, HX3.out.out _ _ _ _ _ _ _ _ _, hfe, m1, rfl⟩)
set_option maxRecDepth 100000 in
set_option maxHeartbeats 4000000 in
theorem t5rd_false (A : Option Addr) (l : List UInt8) (cap a m d p : Nat) (w : World) (hr : Rd w A (byteV l)) (ha : a ≤ l.length) (hp : skipB l a = p) (hm : m ≤ 256) (hcap : l.length ≤ cap) (hlen : l.length ≤ 1048576)
    (hc : l[p]? = some 102) (hm2 : m ≠ 256) :
    Calls Tryd.prog 33 #[.agg (txC A l.length cap a m 0), .int .i64 d] w (RdPost A l cap a m d w) := by
  have hbg : beginsB 102 = true := by decide
  have hno : ¬ ((102 : UInt8).toNat = 91 ∨ (102 : UInt8).toNat = 123) := by decide
  have HM2 := Lib.hid hm2
  obtain ⟨m1, hm1⟩ : ∃ m1 : Nat, m + 1 = m1 := ⟨_, rfl⟩
  have hmi : ((m : Int) == 256) = false := by simp; omega
  have hadd : IntKind.i64.wrap ((m : Int) + 1) = (m1 : Int) := by rw [IntWalk.i64_in _ (by omega)]; omega
  have hm9 : m1 ≤ 256 := by omega
  have HM1 := Lib.hid hm1
  clear hm1
  clear hm2
  have hlt := get_lt hc
  have hap : a ≤ p := by rw [← hp]; exact skipB_ge l a
  obtain ⟨b, o, rfl, hbl⟩ := hr.some_ (show 0 < l.length by omega)
  have HR := Lib.hid hr
  have HX := Lib.hid (XB.new w (some ⟨b, o, none⟩) l.length cap a m)
  have hpass := t5pass_any (some ⟨b, o, none⟩) l cap a m _ (hr.below HX.out.2.2.2) ha hcap hlen
  rw [hp] at hpass
  have HPA := Lib.hid hpass
  have HP := Lib.hid hp
  have HC := Lib.hid hc
  obtain ⟨y1, y2, y3, y4, y5, y6, y7, y8, y9, y10, y11, y12⟩ := neqs w.heap.size
  have hpi : ((p : Int) == (l.length : Int)) = false := by simp; omega
  clear hr hpass hp hc
  go_enter Tryd.func33, Tryd.ntmps33
  go_wp2_with fail
  refine HPA.out.mono ?_
  rintro e1 w1 ⟨rfl, hb1⟩
  have hx := HX.out.keep hb1
  clear HX hb1 HPA
  obtain ⟨⟨h10, h11, h12, h13⟩, ⟨f1, l1⟩, ⟨c2, f2, l2⟩, c3, f3, l3⟩ := hx.facts
  have hx2 := hx.put (p : Int) m
  clear hx
  go_upto_region 2 with (fail)
  obtain ⟨W2, hW2⟩ : ∃ W2, (((w1.setCell ⟨w.heap.size, 0, none⟩ (.slice (some ⟨b, o, none⟩) l.length cap)).setCell ⟨w.heap.size, 1, none⟩ (.int .i64 p)).setCell ⟨w.heap.size, 2, none⟩ (.int .i64 m)).setCell ⟨w.heap.size, 3, none⟩ (.int .i64 0) = W2 := ⟨_, rfl⟩
  rw [hW2] at hx2 ⊢
  have HX2 := Lib.hid hx2
  have hxb := BS.at_ (n := 0) (cap := 0) (HR.out.below hx2.2.2.2) HC.out
  clear hW2 h10 h11 h12 h13 f1 l1 c2 f2 l2 c3 f3 l3
  obtain ⟨⟨h10, h11, h12, h13⟩, ⟨f1, l1⟩, ⟨c2, f2, l2⟩, c3, f3, l3⟩ := hx2.facts
  clear hx2
  obtain ⟨r, hat⟩ : ∃ r, atomJ l p 102 = r := ⟨_, rfl⟩
  have hw := fun W (h : Below w.heap.size w W) => (show Calls Tryd.prog 58 #[.agg (txC (some ⟨b, o, none⟩) l.length cap p (m1 : Int) 0), .string ⟨#[102, 97, 108, 115, 101]⟩, .agg #[.int .i64 2, .int .i64 0, .string ⟨#[]⟩, .slice none 0 0, .slice none 0 0]] W fun e w' => At5 (some ⟨b, o, none⟩) l.length cap (m1 : Int) (wordJ l p falseT (.mk 2 0 [] [] [])) e ∧ Below W.heap.size W w' from t5word_any (some ⟨b, o, none⟩) l cap p m1 ⟨#[102, 97, 108, 115, 101]⟩ 2 0 W (HR.out.below h) (by omega) hcap hlen (by decide))
  have hwa : wordJ l p falseT (.mk 2 0 [] [] []) = r := hat
  rw [hwa] at hw
  have HW := Lib.hid hw
  have HAT := Lib.hid hat
  clear hw hwa hat
  go_wp2_with fail
  refine (HW.out _ (HX2.out.set2 (m1 : Int)).2.2.2).mono ?_
  rintro e1 w2 ⟨hat5, hb2⟩
  have HX3 := Lib.hid ((HX2.out.set2 (m1 : Int)).keep hb2)
  clear h10 h11 h12 h13 f1 l1 c2 f2 l2 c3 f3 l3 hb2 hxb
  obtain ⟨⟨h10, h11, h12, h13⟩, ⟨f1, l1⟩, ⟨c2, f2, l2⟩, c3, f3, l3⟩ := HX3.out.facts
  cases r with
  | inl r =>
    obtain ⟨v, q⟩ := r
    obtain ⟨k, n', s, rfl, rfl⟩ := hat5
    have hok := atom_ok HAT.out (by omega)
    have hrr : RdR l a m d (.ok (.mk k n' s [] []) q (m + 1)) := by
      have h := beginJ_atom (l := l) (a := a) (m := m) (d := d) HP.out HC.out hbg HM2.out hno
      rw [HAT.out] at h
      exact .atom h
    rw [HM1.out] at hrr
    have HRR := Lib.hid hrr
    clear hrr
    go_wp2_with ((with_reducible refine bodyPost_ret (v := .tuple #[.agg (atC k n' s), .agg (txC (some ⟨b, o, none⟩) l.length cap q m1 0)]) ?_ rfl ?_); (simp only [results, Tryd.results33]; go_simp); exact ⟨.ok (.mk k n' s [] []) q m1, HRR.out, HX3.out.out _ _ _ _ _ _ _ _ _, by omega, hok.2, hm9, _, rfl, VR.atom k n' s⟩)
  | inr r =>
    obtain ⟨fp, fe⟩ := r
    obtain ⟨hfe, rfl⟩ := hat5
    have hrr : RdR l a m d (.err fp fe) := by
      have h := beginJ_atom (l := l) (a := a) (m := m) (d := d) HP.out HC.out hbg HM2.out hno
      rw [HAT.out] at h
      exact .err h
    have HRR := Lib.hid hrr
    clear hrr
    go_wp2_with ((with_reducible refine bodyPost_ret (v := .tuple #[.agg zVal, .agg (txC (some ⟨b, o, none⟩) l.length cap fp m1 fe)]) ?_ rfl ?_); (simp only [results, Tryd.results33]; go_simp); exact ⟨.err fp fe, HRR.out, HX3.out.out _ _ _ _ _ _ _ _ _, hfe, m1, rfl⟩)
set_option maxRecDepth 100000 in
set_option maxHeartbeats 4000000 in
theorem t5rd_num (A : Option Addr) (l : List UInt8) (cap a m d p : Nat) (w : World) (hr : Rd w A (byteV l)) (ha : a ≤ l.length) (hp : skipB l a = p) (hm : m ≤ 256) (hcap : l.length ≤ cap) (hlen : l.length ≤ 1048576)
    {c : UInt8} (hc : l[p]? = some c) (hq : 48 ≤ c.toNat ∧ c.toNat ≤ 57) (hm2 : m ≠ 256) :
    Calls Tryd.prog 33 #[.agg (txC A l.length cap a m 0), .int .i64 d] w (RdPost A l cap a m d w) := by
  have hbg : beginsB c = true := by unfold beginsB; exact decide_eq_true (by omega)
  have hno : ¬ (c.toNat = 91 ∨ c.toNat = 123) := by omega
  have hdc : c.toNat = 45 ∨ isDig c = true := .inr (by unfold isDig; simp; omega)
  have h48 : (48 : Int) ≤ (c.toNat : Int) := by omega
  have h57 : (c.toNat : Int) ≤ 57 := by omega
  have e0 : ((c.toNat : Int) == 34) = false := by simp; omega
  have n0 : ((c.toNat : Int) != 34) = true := by simp; omega
  have e1 : ((c.toNat : Int) == 91) = false := by simp; omega
  have n1 : ((c.toNat : Int) != 91) = true := by simp; omega
  have e2 : ((c.toNat : Int) == 123) = false := by simp; omega
  have n2 : ((c.toNat : Int) != 123) = true := by simp; omega
  have e3 : ((c.toNat : Int) == 45) = false := by simp; omega
  have n3 : ((c.toNat : Int) != 45) = true := by simp; omega
  have e4 : ((c.toNat : Int) == 110) = false := by simp; omega
  have n4 : ((c.toNat : Int) != 110) = true := by simp; omega
  have e5 : ((c.toNat : Int) == 116) = false := by simp; omega
  have n5 : ((c.toNat : Int) != 116) = true := by simp; omega
  have e6 : ((c.toNat : Int) == 102) = false := by simp; omega
  have n6 : ((c.toNat : Int) != 102) = true := by simp; omega
  have HM2 := Lib.hid hm2
  obtain ⟨m1, hm1⟩ : ∃ m1 : Nat, m + 1 = m1 := ⟨_, rfl⟩
  have hmi : ((m : Int) == 256) = false := by simp; omega
  have hadd : IntKind.i64.wrap ((m : Int) + 1) = (m1 : Int) := by rw [IntWalk.i64_in _ (by omega)]; omega
  have hm9 : m1 ≤ 256 := by omega
  have HM1 := Lib.hid hm1
  clear hm1
  clear hm2
  have hlt := get_lt hc
  have hap : a ≤ p := by rw [← hp]; exact skipB_ge l a
  obtain ⟨b, o, rfl, hbl⟩ := hr.some_ (show 0 < l.length by omega)
  have HR := Lib.hid hr
  have HX := Lib.hid (XB.new w (some ⟨b, o, none⟩) l.length cap a m)
  have hpass := t5pass_any (some ⟨b, o, none⟩) l cap a m _ (hr.below HX.out.2.2.2) ha hcap hlen
  rw [hp] at hpass
  have HPA := Lib.hid hpass
  have HP := Lib.hid hp
  have HC := Lib.hid hc
  obtain ⟨y1, y2, y3, y4, y5, y6, y7, y8, y9, y10, y11, y12⟩ := neqs w.heap.size
  have hpi : ((p : Int) == (l.length : Int)) = false := by simp; omega
  clear hr hpass hp hc
  go_enter Tryd.func33, Tryd.ntmps33
  go_wp2_with fail
  refine HPA.out.mono ?_
  rintro e1 w1 ⟨rfl, hb1⟩
  have hx := HX.out.keep hb1
  clear HX hb1 HPA
  obtain ⟨⟨h10, h11, h12, h13⟩, ⟨f1, l1⟩, ⟨c2, f2, l2⟩, c3, f3, l3⟩ := hx.facts
  have hx2 := hx.put (p : Int) m
  clear hx
  go_upto_region 2 with (fail)
  obtain ⟨W2, hW2⟩ : ∃ W2, (((w1.setCell ⟨w.heap.size, 0, none⟩ (.slice (some ⟨b, o, none⟩) l.length cap)).setCell ⟨w.heap.size, 1, none⟩ (.int .i64 p)).setCell ⟨w.heap.size, 2, none⟩ (.int .i64 m)).setCell ⟨w.heap.size, 3, none⟩ (.int .i64 0) = W2 := ⟨_, rfl⟩
  rw [hW2] at hx2 ⊢
  have HX2 := Lib.hid hx2
  have hxb := BS.at_ (n := 0) (cap := 0) (HR.out.below hx2.2.2.2) HC.out
  clear hW2 h10 h11 h12 h13 f1 l1 c2 f2 l2 c3 f3 l3
  obtain ⟨⟨h10, h11, h12, h13⟩, ⟨f1, l1⟩, ⟨c2, f2, l2⟩, c3, f3, l3⟩ := hx2.facts
  clear hx2
  obtain ⟨r, hat⟩ : ∃ r, atomJ l p c = r := ⟨_, rfl⟩
  have hw := fun W (h : Below w.heap.size w W) => t5numeral_any (some ⟨b, o, none⟩) l cap p (m1 : Int) c W (HR.out.below h) HC.out hdc hcap hlen
  have hwa : numJ l p = r := by rw [← hat]; unfold atomJ; rw [if_neg (by omega), if_neg (by omega), if_neg (by omega), if_neg (by omega)]
  rw [hwa] at hw
  have HW := Lib.hid hw
  have HAT := Lib.hid hat
  clear hw hwa hat
  go_wp2_with fail
  refine (HW.out _ (HX2.out.set2 (m1 : Int)).2.2.2).mono ?_
  rintro e1 w2 ⟨hat5, hb2⟩
  have HX3 := Lib.hid ((HX2.out.set2 (m1 : Int)).keep hb2)
  clear h10 h11 h12 h13 f1 l1 c2 f2 l2 c3 f3 l3 hb2 hxb
  obtain ⟨⟨h10, h11, h12, h13⟩, ⟨f1, l1⟩, ⟨c2, f2, l2⟩, c3, f3, l3⟩ := HX3.out.facts
  cases r with
  | inl r =>
    obtain ⟨v, q⟩ := r
    obtain ⟨k, n', s, rfl, rfl⟩ := hat5
    have hok := atom_ok HAT.out (by omega)
    have hrr : RdR l a m d (.ok (.mk k n' s [] []) q (m + 1)) := by
      have h := beginJ_atom (l := l) (a := a) (m := m) (d := d) HP.out HC.out hbg HM2.out hno
      rw [HAT.out] at h
      exact .atom h
    rw [HM1.out] at hrr
    have HRR := Lib.hid hrr
    clear hrr
    go_wp2_with ((with_reducible refine bodyPost_ret (v := .tuple #[.agg (atC k n' s), .agg (txC (some ⟨b, o, none⟩) l.length cap q m1 0)]) ?_ rfl ?_); (simp only [results, Tryd.results33]; go_simp); exact ⟨.ok (.mk k n' s [] []) q m1, HRR.out, HX3.out.out _ _ _ _ _ _ _ _ _, by omega, hok.2, hm9, _, rfl, VR.atom k n' s⟩)
  | inr r =>
    obtain ⟨fp, fe⟩ := r
    obtain ⟨hfe, rfl⟩ := hat5
    have hrr : RdR l a m d (.err fp fe) := by
      have h := beginJ_atom (l := l) (a := a) (m := m) (d := d) HP.out HC.out hbg HM2.out hno
      rw [HAT.out] at h
      exact .err h
    have HRR := Lib.hid hrr
    clear hrr
    go_wp2_with ((with_reducible refine bodyPost_ret (v := .tuple #[.agg zVal, .agg (txC (some ⟨b, o, none⟩) l.length cap fp m1 fe)]) ?_ rfl ?_); (simp only [results, Tryd.results33]; go_simp); exact ⟨.err fp fe, HRR.out, HX3.out.out _ _ _ _ _ _ _ _ _, hfe, m1, rfl⟩)
set_option maxRecDepth 100000 in
set_option maxHeartbeats 4000000 in
theorem t5rd_neg (A : Option Addr) (l : List UInt8) (cap a m d p : Nat) (w : World) (hr : Rd w A (byteV l)) (ha : a ≤ l.length) (hp : skipB l a = p) (hm : m ≤ 256) (hcap : l.length ≤ cap) (hlen : l.length ≤ 1048576)
    {c : UInt8} (hc : l[p]? = some c) (hq : c.toNat = 45) (hm2 : m ≠ 256) :
    Calls Tryd.prog 33 #[.agg (txC A l.length cap a m 0), .int .i64 d] w (RdPost A l cap a m d w) := by
  have hbg : beginsB c = true := by unfold beginsB; exact decide_eq_true (by omega)
  have hno : ¬ (c.toNat = 91 ∨ c.toNat = 123) := by omega
  have hdc : c.toNat = 45 ∨ isDig c = true := .inl hq
  have HM2 := Lib.hid hm2
  obtain ⟨m1, hm1⟩ : ∃ m1 : Nat, m + 1 = m1 := ⟨_, rfl⟩
  have hmi : ((m : Int) == 256) = false := by simp; omega
  have hadd : IntKind.i64.wrap ((m : Int) + 1) = (m1 : Int) := by rw [IntWalk.i64_in _ (by omega)]; omega
  have hm9 : m1 ≤ 256 := by omega
  have HM1 := Lib.hid hm1
  clear hm1
  clear hm2
  have hlt := get_lt hc
  have hap : a ≤ p := by rw [← hp]; exact skipB_ge l a
  obtain ⟨b, o, rfl, hbl⟩ := hr.some_ (show 0 < l.length by omega)
  have HR := Lib.hid hr
  have HX := Lib.hid (XB.new w (some ⟨b, o, none⟩) l.length cap a m)
  have hpass := t5pass_any (some ⟨b, o, none⟩) l cap a m _ (hr.below HX.out.2.2.2) ha hcap hlen
  rw [hp] at hpass
  have HPA := Lib.hid hpass
  have HP := Lib.hid hp
  have HC := Lib.hid hc
  obtain ⟨y1, y2, y3, y4, y5, y6, y7, y8, y9, y10, y11, y12⟩ := neqs w.heap.size
  have hpi : ((p : Int) == (l.length : Int)) = false := by simp; omega
  clear hr hpass hp hc
  go_enter Tryd.func33, Tryd.ntmps33
  go_wp2_with fail
  refine HPA.out.mono ?_
  rintro e1 w1 ⟨rfl, hb1⟩
  have hx := HX.out.keep hb1
  clear HX hb1 HPA
  obtain ⟨⟨h10, h11, h12, h13⟩, ⟨f1, l1⟩, ⟨c2, f2, l2⟩, c3, f3, l3⟩ := hx.facts
  have hx2 := hx.put (p : Int) m
  clear hx
  go_upto_region 2 with (fail)
  obtain ⟨W2, hW2⟩ : ∃ W2, (((w1.setCell ⟨w.heap.size, 0, none⟩ (.slice (some ⟨b, o, none⟩) l.length cap)).setCell ⟨w.heap.size, 1, none⟩ (.int .i64 p)).setCell ⟨w.heap.size, 2, none⟩ (.int .i64 m)).setCell ⟨w.heap.size, 3, none⟩ (.int .i64 0) = W2 := ⟨_, rfl⟩
  rw [hW2] at hx2 ⊢
  have HX2 := Lib.hid hx2
  have hxb := BS.at_ (n := 0) (cap := 0) (HR.out.below hx2.2.2.2) HC.out
  clear hW2 h10 h11 h12 h13 f1 l1 c2 f2 l2 c3 f3 l3
  obtain ⟨⟨h10, h11, h12, h13⟩, ⟨f1, l1⟩, ⟨c2, f2, l2⟩, c3, f3, l3⟩ := hx2.facts
  clear hx2
  rw [hq] at hxb
  obtain ⟨r, hat⟩ : ∃ r, atomJ l p c = r := ⟨_, rfl⟩
  have hw := fun W (h : Below w.heap.size w W) => t5numeral_any (some ⟨b, o, none⟩) l cap p (m1 : Int) c W (HR.out.below h) HC.out hdc hcap hlen
  have hwa : numJ l p = r := by rw [← hat]; unfold atomJ; rw [if_neg (by omega), if_neg (by omega), if_neg (by omega), if_neg (by omega)]
  rw [hwa] at hw
  have HW := Lib.hid hw
  have HAT := Lib.hid hat
  clear hw hwa hat
  go_wp2_with fail
  refine (HW.out _ (HX2.out.set2 (m1 : Int)).2.2.2).mono ?_
  rintro e1 w2 ⟨hat5, hb2⟩
  have HX3 := Lib.hid ((HX2.out.set2 (m1 : Int)).keep hb2)
  clear h10 h11 h12 h13 f1 l1 c2 f2 l2 c3 f3 l3 hb2 hxb
  obtain ⟨⟨h10, h11, h12, h13⟩, ⟨f1, l1⟩, ⟨c2, f2, l2⟩, c3, f3, l3⟩ := HX3.out.facts
  cases r with
  | inl r =>
    obtain ⟨v, q⟩ := r
    obtain ⟨k, n', s, rfl, rfl⟩ := hat5
    have hok := atom_ok HAT.out (by omega)
    have hrr : RdR l a m d (.ok (.mk k n' s [] []) q (m + 1)) := by
      have h := beginJ_atom (l := l) (a := a) (m := m) (d := d) HP.out HC.out hbg HM2.out hno
      rw [HAT.out] at h
      exact .atom h
    rw [HM1.out] at hrr
    have HRR := Lib.hid hrr
    clear hrr
    go_wp2_with ((with_reducible refine bodyPost_ret (v := .tuple #[.agg (atC k n' s), .agg (txC (some ⟨b, o, none⟩) l.length cap q m1 0)]) ?_ rfl ?_); (simp only [results, Tryd.results33]; go_simp); exact ⟨.ok (.mk k n' s [] []) q m1, HRR.out, HX3.out.out _ _ _ _ _ _ _ _ _, by omega, hok.2, hm9, _, rfl, VR.atom k n' s⟩)
  | inr r =>
    obtain ⟨fp, fe⟩ := r
    obtain ⟨hfe, rfl⟩ := hat5
    have hrr : RdR l a m d (.err fp fe) := by
      have h := beginJ_atom (l := l) (a := a) (m := m) (d := d) HP.out HC.out hbg HM2.out hno
      rw [HAT.out] at h
      exact .err h
    have HRR := Lib.hid hrr
    clear hrr
    go_wp2_with ((with_reducible refine bodyPost_ret (v := .tuple #[.agg zVal, .agg (txC (some ⟨b, o, none⟩) l.length cap fp m1 fe)]) ?_ rfl ?_); (simp only [results, Tryd.results33]; go_simp); exact ⟨.err fp fe, HRR.out, HX3.out.out _ _ _ _ _ _ _ _ _, hfe, m1, rfl⟩)
end Go.Proofs.YtalhoacancbldaaDoor

/- The walk of the reference davenportref05: Read, a text. -/
namespace Go.Proofs.YtalhoacancbldaaDoor
set_option linter.unusedVariables false
set_option linter.unusedSimpArgs false
open Go.RowKit
attribute [local go_sem] run_index_arr run_part_agg run_part_one run_field_agg
theorem neqs3 {g k : Nat} (h : g + 1 + 1 < k) : k ≠ g ∧ k ≠ g + 1 ∧ k ≠ g + 1 + 1 ∧ g ≠ k ∧ g + 1 ≠ k ∧ g + 1 + 1 ≠ k := by
  refine ⟨?_, ?_, ?_, ?_, ?_, ?_⟩ <;> omega
set_option maxRecDepth 100000 in
set_option maxHeartbeats 4000000 in
theorem t5rd_text (A : Option Addr) (l : List UInt8) (cap a m d p : Nat) (w : World) (hr : Rd w A (byteV l)) (ha : a ≤ l.length) (hp : skipB l a = p) (hm : m ≤ 256) (hcap : l.length ≤ cap) (hlen : l.length ≤ 1048576)
    (hc : l[p]? = some 34) (hm2 : m ≠ 256) :
    Calls Tryd.prog 33 #[.agg (txC A l.length cap a m 0), .int .i64 d] w (RdPost A l cap a m d w) := by
  have hbg : beginsB 34 = true := by decide
  have hno : ¬ ((34 : UInt8).toNat = 91 ∨ (34 : UInt8).toNat = 123) := by decide
  have HM2 := Lib.hid hm2
  obtain ⟨m1, hm1⟩ : ∃ m1 : Nat, m + 1 = m1 := ⟨_, rfl⟩
  have hmi : ((m : Int) == 256) = false := by simp; omega
  have hadd : IntKind.i64.wrap ((m : Int) + 1) = (m1 : Int) := by rw [IntWalk.i64_in _ (by omega)]; omega
  have hm9 : m1 ≤ 256 := by omega
  have HM1 := Lib.hid hm1
  clear hm1
  clear hm2
  have hlt := get_lt hc
  have hap : a ≤ p := by rw [← hp]; exact skipB_ge l a
  obtain ⟨b, o, rfl, hbl⟩ := hr.some_ (show 0 < l.length by omega)
  have HR := Lib.hid hr
  have HX := Lib.hid (XB.new w (some ⟨b, o, none⟩) l.length cap a m)
  have hpass := t5pass_any (some ⟨b, o, none⟩) l cap a m _ (hr.below HX.out.2.2.2) ha hcap hlen
  rw [hp] at hpass
  have HPA := Lib.hid hpass
  have HP := Lib.hid hp
  have HC := Lib.hid hc
  obtain ⟨y1, y2, y3, y4, y5, y6, y7, y8, y9, y10, y11, y12⟩ := neqs w.heap.size
  have hpi : ((p : Int) == (l.length : Int)) = false := by simp; omega
  clear hr hpass hp hc
  go_enter Tryd.func33, Tryd.ntmps33
  go_wp2_with fail
  refine HPA.out.mono ?_
  rintro e1 w1 ⟨rfl, hb1⟩
  have hx := HX.out.keep hb1
  clear HX hb1 HPA
  obtain ⟨⟨h10, h11, h12, h13⟩, ⟨f1, l1⟩, ⟨c2, f2, l2⟩, c3, f3, l3⟩ := hx.facts
  have hx2 := hx.put (p : Int) m
  clear hx
  go_upto_region 2 with (fail)
  obtain ⟨W2, hW2⟩ : ∃ W2, (((w1.setCell ⟨w.heap.size, 0, none⟩ (.slice (some ⟨b, o, none⟩) l.length cap)).setCell ⟨w.heap.size, 1, none⟩ (.int .i64 p)).setCell ⟨w.heap.size, 2, none⟩ (.int .i64 m)).setCell ⟨w.heap.size, 3, none⟩ (.int .i64 0) = W2 := ⟨_, rfl⟩
  rw [hW2] at hx2 ⊢
  have HX2 := Lib.hid hx2
  have hxb := BS.at_ (n := 0) (cap := 0) (HR.out.below hx2.2.2.2) HC.out
  clear hW2 h10 h11 h12 h13 f1 l1 c2 f2 l2 c3 f3 l3
  obtain ⟨⟨h10, h11, h12, h13⟩, ⟨f1, l1⟩, ⟨c2, f2, l2⟩, c3, f3, l3⟩ := hx2.facts
  clear hx2
  have hw := fun W (h : Below w.heap.size w W) => t5quoted_any (some ⟨b, o, none⟩) l cap p (m1 : Int) W (HR.out.below h) HC.out hcap hlen
  have HW := Lib.hid hw
  clear hw
  go_wp2_with fail
  refine (HW.out _ (HX2.out.set2 (m1 : Int)).2.2.2).mono ?_
  rintro e1 w5 ⟨hqt, hb5⟩
  have HX5 := Lib.hid ((HX2.out.set2 (m1 : Int)).keep hb5)
  clear h10 h11 h12 h13 f1 l1 c2 f2 l2 c3 f3 l3 hb5 hxb HW
  obtain ⟨⟨s, pl, er⟩, hqr⟩ : ∃ r, qRead l p = r := ⟨_, rfl⟩
  have hat : atomJ l p 34 = if er = 0 then .inl (.mk 4 0 s [] [], pl.toNat) else .inr (failF l pl er) := by
    unfold atomJ textJ
    rw [if_pos (by decide), hqr]
  unfold Qt5 at hqt
  rw [hqr] at hqt
  simp only at hqt
  have hbj := beginJ_atom (l := l) (a := a) (m := m) (d := d) HP.out HC.out hbg HM2.out hno
  rw [hat] at hbj
  have hsz5 : w.heap.size + 1 + 1 < w5.heap.size := HX5.out.2.2.1.lt
  obtain ⟨z1, z2, z3, z4, z5, z6⟩ := neqs3 hsz5
  clear hat
  by_cases h0 : er = 0
  · subst h0
    rw [if_pos rfl] at hqt hbj
    subst hqt
    have hqok := qRead_ok (l := l) (a := p) (by rw [hqr])
    rw [hqr] at hqok
    obtain ⟨q, hq1, hq2, hq3⟩ := hqok
    simp only at hq1
    subst hq1
    have hrr : RdR l a m d (.ok (.mk 4 0 s [] []) q (m + 1)) := .atom hbj
    rw [HM1.out] at hrr
    have HRR := Lib.hid hrr
    clear hqr hrr hbj
    obtain ⟨W4, hW4⟩ : ∃ W4, w5.alloc (.cells (txC (some ⟨b, o, none⟩) l.length cap q m1 0) 49) = W4 := ⟨_, rfl⟩
    have hb54 : Below w5.heap.size w5 W4 := by rw [← hW4]; exact (Below.refl _ _).alloc (Nat.le_refl _) _
    have HX4 := Lib.hid (HX5.out.keep hb54)
    have HB8 : Hid (Blk W4 w5.heap.size 49 (txC (some ⟨b, o, none⟩) l.length cap q m1 0)) := Lib.hid (by rw [← hW4]; exact Blk.new _ _ _)
    have HW4 := Lib.hid hW4
    clear hb54 hW4 HX5
    go_upto_region 14 with (fail)
    rw [HW4.out]
    clear HW4
    obtain ⟨j10, j11, j12, j13⟩ := TB.cells HB8.out
    obtain ⟨_, f8, l8⟩ := HB8.out.rules
    obtain ⟨⟨h10, h11, h12, h13⟩, ⟨f1, l1⟩, ⟨c2, f2, l2⟩, c3, f3, l3⟩ := HX4.out.facts
    go_wp2
    go_region_held3 (fun w' => w'.cell? ⟨w5.heap.size, 0, none⟩ = some (.slice (some ⟨b, o, none⟩) l.length cap) ∧ w'.cell? ⟨w5.heap.size, 1, none⟩ = some (.int .i64 q) ∧ w'.cell? ⟨w5.heap.size, 2, none⟩ = some (.int .i64 m1) ∧ w'.cell? ⟨w5.heap.size, 3, none⟩ = some (.int .i64 0)) (go_keep) (fail)
    all_goals
      go_wp2_with ((with_reducible refine bodyPost_ret (v := .tuple #[.agg (atC 4 0 s), .agg (txC (some ⟨b, o, none⟩) l.length cap q m1 0)]) ?_ rfl ?_); (simp only [results, Tryd.results33]; go_simp); exact ⟨.ok (.mk 4 0 s [] []) q m1, HRR.out, (HX4.out.out _ _ _ _ _ _ _ _ _).drew, by omega, hq3, hm9, _, rfl, VR.atom 4 0 s⟩)
  · rw [if_neg h0] at hqt hbj
    subst hqt
    obtain ⟨fp, fe, hf⟩ : ∃ fp fe, failF l pl er = (fp, fe) := ⟨_, _, rfl⟩
    have hfe : fe ≠ 0 := by have := failF_ne (l := l) (p := pl) (e := er) h0; rw [hf] at this; exact this
    rw [hf] at hbj ⊢
    have hrr : RdR l a m d (.err fp fe) := .err hbj
    have HRR := Lib.hid hrr
    have hfb : (fe != 0) = true := by simpa using hfe
    clear hqr hrr hbj hf
    obtain ⟨W4, hW4⟩ : ∃ W4, w5.alloc (.cells (txC (some ⟨b, o, none⟩) l.length cap fp m1 fe) 49) = W4 := ⟨_, rfl⟩
    have hb54 : Below w5.heap.size w5 W4 := by rw [← hW4]; exact (Below.refl _ _).alloc (Nat.le_refl _) _
    have HX4 := Lib.hid (HX5.out.keep hb54)
    have HB8 : Hid (Blk W4 w5.heap.size 49 (txC (some ⟨b, o, none⟩) l.length cap fp m1 fe)) := Lib.hid (by rw [← hW4]; exact Blk.new _ _ _)
    have HW4 := Lib.hid hW4
    clear hb54 hW4 HX5
    go_upto_region 14 with (fail)
    rw [HW4.out]
    clear HW4
    obtain ⟨j10, j11, j12, j13⟩ := TB.cells HB8.out
    obtain ⟨_, f8, l8⟩ := HB8.out.rules
    obtain ⟨⟨h10, h11, h12, h13⟩, ⟨f1, l1⟩, ⟨c2, f2, l2⟩, c3, f3, l3⟩ := HX4.out.facts
    go_wp2
    go_region_held3 (fun w' => w'.cell? ⟨w5.heap.size, 0, none⟩ = some (.slice (some ⟨b, o, none⟩) l.length cap) ∧ w'.cell? ⟨w5.heap.size, 1, none⟩ = some (.int .i64 fp) ∧ w'.cell? ⟨w5.heap.size, 2, none⟩ = some (.int .i64 m1) ∧ w'.cell? ⟨w5.heap.size, 3, none⟩ = some (.int .i64 fe)) (go_keep) (fail)
    all_goals
      go_wp2_with ((with_reducible refine bodyPost_ret (v := .tuple #[.agg zVal, .agg (txC (some ⟨b, o, none⟩) l.length cap fp m1 fe)]) ?_ rfl ?_); (simp only [results, Tryd.results33]; go_simp); exact ⟨.err fp fe, HRR.out, (HX4.out.out _ _ _ _ _ _ _ _ _).drew, hfe, m1, rfl⟩)
end Go.Proofs.YtalhoacancbldaaDoor

/- The walk of the reference davenportref05: Read, a list, an object. -/
namespace Go.Proofs.YtalhoacancbldaaDoor
set_option linter.unusedVariables false
set_option linter.unusedSimpArgs false
open Go.RowKit
attribute [local go_sem] run_index_arr run_part_agg run_part_one run_field_agg
set_option maxRecDepth 100000 in
set_option maxHeartbeats 4000000 in
theorem t5rd_list (A : Option Addr) (l : List UInt8) (cap K a m d p : Nat) (w : World) (hrd : RdAll A l cap K) (hr : Rd w A (byteV l)) (ha : a ≤ l.length) (hK : l.length - a < K + 1) (hp : skipB l a = p) (hm : m ≤ 256) (hcap : l.length ≤ cap) (hlen : l.length ≤ 1048576)
    (hc : l[p]? = some 91) (hm2 : m ≠ 256) (hd8 : d ≤ 7) :
    Calls Tryd.prog 33 #[.agg (txC A l.length cap a m 0), .int .i64 d] w (RdPost A l cap a m d w) := by
  have hbg : beginsB 91 = true := by decide
  have hdi : ((d : Int) == 8) = false := by simp; omega
  have HM2 := Lib.hid hm2
  have HRD := Lib.hid hrd
  obtain ⟨m1, hm1⟩ : ∃ m1 : Nat, m + 1 = m1 := ⟨_, rfl⟩
  have hmi : ((m : Int) == 256) = false := by simp; omega
  have hadd : IntKind.i64.wrap ((m : Int) + 1) = (m1 : Int) := by rw [IntWalk.i64_in _ (by omega)]; omega
  have hm9 : m1 ≤ 256 := by omega
  have HM1 := Lib.hid hm1
  clear hm1
  clear hm2 hrd
  have hlt := get_lt hc
  have hap : a ≤ p := by rw [← hp]; exact skipB_ge l a
  obtain ⟨b, o, rfl, hbl⟩ := hr.some_ (show 0 < l.length by omega)
  have HR := Lib.hid hr
  have HX := Lib.hid (XB.new w (some ⟨b, o, none⟩) l.length cap a m)
  have hpass := t5pass_any (some ⟨b, o, none⟩) l cap a m _ (hr.below HX.out.2.2.2) ha hcap hlen
  rw [hp] at hpass
  have HPA := Lib.hid hpass
  have HP := Lib.hid hp
  have HC := Lib.hid hc
  obtain ⟨y1, y2, y3, y4, y5, y6, y7, y8, y9, y10, y11, y12⟩ := neqs w.heap.size
  have hpi : ((p : Int) == (l.length : Int)) = false := by simp; omega
  clear hr hpass hp hc
  go_enter Tryd.func33, Tryd.ntmps33
  go_wp2_with fail
  refine HPA.out.mono ?_
  rintro e1 w1 ⟨rfl, hb1⟩
  have hx := HX.out.keep hb1
  clear HX hb1 HPA
  obtain ⟨⟨h10, h11, h12, h13⟩, ⟨f1, l1⟩, ⟨c2, f2, l2⟩, c3, f3, l3⟩ := hx.facts
  have hx2 := hx.put (p : Int) m
  clear hx
  go_upto_region 2 with (fail)
  obtain ⟨W2, hW2⟩ : ∃ W2, (((w1.setCell ⟨w.heap.size, 0, none⟩ (.slice (some ⟨b, o, none⟩) l.length cap)).setCell ⟨w.heap.size, 1, none⟩ (.int .i64 p)).setCell ⟨w.heap.size, 2, none⟩ (.int .i64 m)).setCell ⟨w.heap.size, 3, none⟩ (.int .i64 0) = W2 := ⟨_, rfl⟩
  rw [hW2] at hx2 ⊢
  have HX2 := Lib.hid hx2
  have hxb := BS.at_ (n := 0) (cap := 0) (HR.out.below hx2.2.2.2) HC.out
  clear hW2 h10 h11 h12 h13 f1 l1 c2 f2 l2 c3 f3 l3
  obtain ⟨⟨h10, h11, h12, h13⟩, ⟨f1, l1⟩, ⟨c2, f2, l2⟩, c3, f3, l3⟩ := hx2.facts
  clear hx2
  obtain ⟨p1, hp1⟩ : ∃ p1 : Nat, p + 1 = p1 := ⟨_, rfl⟩
  have hadd2 : IntKind.i64.wrap ((p : Int) + 1) = (p1 : Int) := by rw [IntWalk.i64_in _ (by omega)]; omega
  have hw := fun W (h : Below w.heap.size w W) => t5list_any (some ⟨b, o, none⟩) l cap K p1 m1 d W HRD.out (HR.out.below h) (by omega) (by omega) hm9 hd8 hcap hlen
  have HW := Lib.hid hw
  have hbj : beginJ l a m d = .opens p false := beginJ_open HP.out HC.out hbg HM2.out (by decide) (by omega)
  have HCR := Lib.hid (fun r (h : LsS l (skipB l p1) m1 d r) => rd_of_ls hbj (show LsS l (skipB l (p + 1)) (m + 1) d r by rw [HM1.out, hp1]; exact h))
  have hpp : a < p1 := by omega
  have hx2 := (HX2.out.set2 (m1 : Int)).set1 (p1 : Int)
  clear hw hbj hp1
  go_wp2_with fail
  refine (HW.out _ hx2.2.2.2).mono ?_
  rintro e1 w5 ⟨r, hls, hb5, hans⟩
  have hszx := hx2.2.2.2.size
  have hlx := hx2.2.2.1.lt
  have hx5 := hx2.keep hb5
  obtain ⟨W3, hW3⟩ : ∃ W3, (W2.setCell ⟨w.heap.size, 2, none⟩ (.int .i64 (m1 : Int))).setCell ⟨w.heap.size, 1, none⟩ (.int .i64 (p1 : Int)) = W3 := ⟨_, rfl⟩
  rw [hW3] at hb5 hans hszx hlx
  have HX5 := Lib.hid hx5
  have HRR := Lib.hid (HCR.out r hls)
  clear h10 h11 h12 h13 f1 l1 c2 f2 l2 c3 f3 l3 hb5 hxb HW hx2 hx5 hls hW3
  obtain ⟨⟨h10, h11, h12, h13⟩, ⟨f1, l1⟩, ⟨c2, f2, l2⟩, c3, f3, l3⟩ := HX5.out.facts
  cases r with
  | err fp fe =>
    obtain ⟨hfe, k, rfl⟩ := hans
    go_wp2_with ((with_reducible refine bodyPost_ret (v := .tuple #[.agg zVal, .agg (txC (some ⟨b, o, none⟩) l.length cap fp k fe)]) ?_ rfl ?_); (simp only [results, Tryd.results33]; go_simp); exact ⟨.err fp fe, HRR.out, HX5.out.out _ _ _ _ _ _ _ _ _, hfe, k, rfl⟩)
  | ok v q k =>
    obtain ⟨hq1, hq2, hk, cs, rfl, hvr⟩ := hans
    obtain ⟨k0, n0, s0, A0, na0, ca0, B0, nb0, cb0, rfl⟩ := hvr.form
    have hvk := fun a b c d e a' b' c' d' => (hvr.keep (out_keep0 (W := w5) (g := w.heap.size) (fun b hb => by omega) a b c d e a' b' c' d')).mono (F' := fun b => w.heap.size ≤ b) (fun b _ hb => by omega)
    have HVK := Lib.hid hvk
    clear hvk hvr
    go_wp2_with ((with_reducible refine bodyPost_ret (v := .tuple #[.agg #[.int .i64 k0, .int .i64 n0, .string s0, .slice A0 na0 ca0, .slice B0 nb0 cb0], .agg (txC (some ⟨b, o, none⟩) l.length cap q k 0)]) ?_ rfl ?_); (simp only [results, Tryd.results33]; go_simp); exact ⟨.ok v q k, HRR.out, HX5.out.out _ _ _ _ _ _ _ _ _, by omega, hq2, hk, _, rfl, HVK.out _ _ _ _ _ _ _ _ _⟩)
set_option maxRecDepth 100000 in
set_option maxHeartbeats 4000000 in
theorem t5rd_object (A : Option Addr) (l : List UInt8) (cap K a m d p : Nat) (w : World) (hrd : RdAll A l cap K) (hr : Rd w A (byteV l)) (ha : a ≤ l.length) (hK : l.length - a < K + 1) (hp : skipB l a = p) (hm : m ≤ 256) (hcap : l.length ≤ cap) (hlen : l.length ≤ 1048576)
    (hc : l[p]? = some 123) (hm2 : m ≠ 256) (hd8 : d ≤ 7) :
    Calls Tryd.prog 33 #[.agg (txC A l.length cap a m 0), .int .i64 d] w (RdPost A l cap a m d w) := by
  have hbg : beginsB 123 = true := by decide
  have hdi : ((d : Int) == 8) = false := by simp; omega
  have HM2 := Lib.hid hm2
  have HRD := Lib.hid hrd
  obtain ⟨m1, hm1⟩ : ∃ m1 : Nat, m + 1 = m1 := ⟨_, rfl⟩
  have hmi : ((m : Int) == 256) = false := by simp; omega
  have hadd : IntKind.i64.wrap ((m : Int) + 1) = (m1 : Int) := by rw [IntWalk.i64_in _ (by omega)]; omega
  have hm9 : m1 ≤ 256 := by omega
  have HM1 := Lib.hid hm1
  clear hm1
  clear hm2 hrd
  have hlt := get_lt hc
  have hap : a ≤ p := by rw [← hp]; exact skipB_ge l a
  obtain ⟨b, o, rfl, hbl⟩ := hr.some_ (show 0 < l.length by omega)
  have HR := Lib.hid hr
  have HX := Lib.hid (XB.new w (some ⟨b, o, none⟩) l.length cap a m)
  have hpass := t5pass_any (some ⟨b, o, none⟩) l cap a m _ (hr.below HX.out.2.2.2) ha hcap hlen
  rw [hp] at hpass
  have HPA := Lib.hid hpass
  have HP := Lib.hid hp
  have HC := Lib.hid hc
  obtain ⟨y1, y2, y3, y4, y5, y6, y7, y8, y9, y10, y11, y12⟩ := neqs w.heap.size
  have hpi : ((p : Int) == (l.length : Int)) = false := by simp; omega
  clear hr hpass hp hc
  go_enter Tryd.func33, Tryd.ntmps33
  go_wp2_with fail
  refine HPA.out.mono ?_
  rintro e1 w1 ⟨rfl, hb1⟩
  have hx := HX.out.keep hb1
  clear HX hb1 HPA
  obtain ⟨⟨h10, h11, h12, h13⟩, ⟨f1, l1⟩, ⟨c2, f2, l2⟩, c3, f3, l3⟩ := hx.facts
  have hx2 := hx.put (p : Int) m
  clear hx
  go_upto_region 2 with (fail)
  obtain ⟨W2, hW2⟩ : ∃ W2, (((w1.setCell ⟨w.heap.size, 0, none⟩ (.slice (some ⟨b, o, none⟩) l.length cap)).setCell ⟨w.heap.size, 1, none⟩ (.int .i64 p)).setCell ⟨w.heap.size, 2, none⟩ (.int .i64 m)).setCell ⟨w.heap.size, 3, none⟩ (.int .i64 0) = W2 := ⟨_, rfl⟩
  rw [hW2] at hx2 ⊢
  have HX2 := Lib.hid hx2
  have hxb := BS.at_ (n := 0) (cap := 0) (HR.out.below hx2.2.2.2) HC.out
  clear hW2 h10 h11 h12 h13 f1 l1 c2 f2 l2 c3 f3 l3
  obtain ⟨⟨h10, h11, h12, h13⟩, ⟨f1, l1⟩, ⟨c2, f2, l2⟩, c3, f3, l3⟩ := hx2.facts
  clear hx2
  obtain ⟨p1, hp1⟩ : ∃ p1 : Nat, p + 1 = p1 := ⟨_, rfl⟩
  have hadd2 : IntKind.i64.wrap ((p : Int) + 1) = (p1 : Int) := by rw [IntWalk.i64_in _ (by omega)]; omega
  have hw := fun W (h : Below w.heap.size w W) => t5object_any (some ⟨b, o, none⟩) l cap K p1 m1 d W HRD.out (HR.out.below h) (by omega) (by omega) hm9 hd8 hcap hlen
  have HW := Lib.hid hw
  have hbj : beginJ l a m d = .opens p true := beginJ_open HP.out HC.out hbg HM2.out (by decide) (by omega)
  have HCR := Lib.hid (fun r (h : ObS l (skipB l p1) m1 d r) => rd_of_ob hbj (show ObS l (skipB l (p + 1)) (m + 1) d r by rw [HM1.out, hp1]; exact h))
  have hpp : a < p1 := by omega
  have hx2 := (HX2.out.set2 (m1 : Int)).set1 (p1 : Int)
  clear hw hbj hp1
  go_wp2_with fail
  refine (HW.out _ hx2.2.2.2).mono ?_
  rintro e1 w5 ⟨r, hls, hb5, hans⟩
  have hszx := hx2.2.2.2.size
  have hlx := hx2.2.2.1.lt
  have hx5 := hx2.keep hb5
  obtain ⟨W3, hW3⟩ : ∃ W3, (W2.setCell ⟨w.heap.size, 2, none⟩ (.int .i64 (m1 : Int))).setCell ⟨w.heap.size, 1, none⟩ (.int .i64 (p1 : Int)) = W3 := ⟨_, rfl⟩
  rw [hW3] at hb5 hans hszx hlx
  have HX5 := Lib.hid hx5
  have HRR := Lib.hid (HCR.out r hls)
  clear h10 h11 h12 h13 f1 l1 c2 f2 l2 c3 f3 l3 hb5 hxb HW hx2 hx5 hls hW3
  obtain ⟨⟨h10, h11, h12, h13⟩, ⟨f1, l1⟩, ⟨c2, f2, l2⟩, c3, f3, l3⟩ := HX5.out.facts
  cases r with
  | err fp fe =>
    obtain ⟨hfe, k, rfl⟩ := hans
    go_wp2_with ((with_reducible refine bodyPost_ret (v := .tuple #[.agg zVal, .agg (txC (some ⟨b, o, none⟩) l.length cap fp k fe)]) ?_ rfl ?_); (simp only [results, Tryd.results33]; go_simp); exact ⟨.err fp fe, HRR.out, HX5.out.out _ _ _ _ _ _ _ _ _, hfe, k, rfl⟩)
  | ok v q k =>
    obtain ⟨hq1, hq2, hk, cs, rfl, hvr⟩ := hans
    obtain ⟨k0, n0, s0, A0, na0, ca0, B0, nb0, cb0, rfl⟩ := hvr.form
    have hvk := fun a b c d e a' b' c' d' => (hvr.keep (out_keep0 (W := w5) (g := w.heap.size) (fun b hb => by omega) a b c d e a' b' c' d')).mono (F' := fun b => w.heap.size ≤ b) (fun b _ hb => by omega)
    have HVK := Lib.hid hvk
    clear hvk hvr
    go_wp2_with ((with_reducible refine bodyPost_ret (v := .tuple #[.agg #[.int .i64 k0, .int .i64 n0, .string s0, .slice A0 na0 ca0, .slice B0 nb0 cb0], .agg (txC (some ⟨b, o, none⟩) l.length cap q k 0)]) ?_ rfl ?_); (simp only [results, Tryd.results33]; go_simp); exact ⟨.ok v q k, HRR.out, HX5.out.out _ _ _ _ _ _ _ _ _, by omega, hq2, hk, _, rfl, HVK.out _ _ _ _ _ _ _ _ _⟩)
end Go.Proofs.YtalhoacancbldaaDoor

/- The walk of the reference davenportref05: Read, too many, too deep. -/
namespace Go.Proofs.YtalhoacancbldaaDoor
set_option linter.unusedVariables false
set_option linter.unusedSimpArgs false
open Go.RowKit
attribute [local go_sem] run_index_arr run_part_agg run_part_one run_field_agg
set_option maxRecDepth 100000 in
set_option maxHeartbeats 4000000 in
theorem t5rd_many (A : Option Addr) (l : List UInt8) (cap a m d p : Nat) (w : World) (hr : Rd w A (byteV l)) (ha : a ≤ l.length) (hp : skipB l a = p) (hm : m ≤ 256) (hcap : l.length ≤ cap) (hlen : l.length ≤ 1048576)
    {c : UInt8} (hc : l[p]? = some c) (hbg : beginsB c = true) (hm2 : m = 256) :
    Calls Tryd.prog 33 #[.agg (txC A l.length cap a m 0), .int .i64 d] w (RdPost A l cap a m d w) := by
  have hcs := of_decide_eq_true hbg
  have hmi : ((m : Int) == 256) = true := by simp; omega
  have HM2 := Lib.hid hm2
  clear hm2
  have hlt := get_lt hc
  have hap : a ≤ p := by rw [← hp]; exact skipB_ge l a
  obtain ⟨b, o, rfl, hbl⟩ := hr.some_ (show 0 < l.length by omega)
  have HR := Lib.hid hr
  have HX := Lib.hid (XB.new w (some ⟨b, o, none⟩) l.length cap a m)
  have hpass := t5pass_any (some ⟨b, o, none⟩) l cap a m _ (hr.below HX.out.2.2.2) ha hcap hlen
  rw [hp] at hpass
  have HPA := Lib.hid hpass
  have HP := Lib.hid hp
  have HC := Lib.hid hc
  obtain ⟨y1, y2, y3, y4, y5, y6, y7, y8, y9, y10, y11, y12⟩ := neqs w.heap.size
  have hpi : ((p : Int) == (l.length : Int)) = false := by simp; omega
  clear hr hpass hp hc
  go_enter Tryd.func33, Tryd.ntmps33
  go_wp2_with fail
  refine HPA.out.mono ?_
  rintro e1 w1 ⟨rfl, hb1⟩
  have hx := HX.out.keep hb1
  clear HX hb1 HPA
  obtain ⟨⟨h10, h11, h12, h13⟩, ⟨f1, l1⟩, ⟨c2, f2, l2⟩, c3, f3, l3⟩ := hx.facts
  have hx2 := hx.put (p : Int) m
  clear hx
  go_upto_region 2 with (fail)
  obtain ⟨W2, hW2⟩ : ∃ W2, (((w1.setCell ⟨w.heap.size, 0, none⟩ (.slice (some ⟨b, o, none⟩) l.length cap)).setCell ⟨w.heap.size, 1, none⟩ (.int .i64 p)).setCell ⟨w.heap.size, 2, none⟩ (.int .i64 m)).setCell ⟨w.heap.size, 3, none⟩ (.int .i64 0) = W2 := ⟨_, rfl⟩
  rw [hW2] at hx2 ⊢
  have HX2 := Lib.hid hx2
  have hxb := BS.at_ (n := 0) (cap := 0) (HR.out.below hx2.2.2.2) HC.out
  clear hW2 h10 h11 h12 h13 f1 l1 c2 f2 l2 c3 f3 l3
  obtain ⟨⟨h10, h11, h12, h13⟩, ⟨f1, l1⟩, ⟨c2, f2, l2⟩, c3, f3, l3⟩ := hx2.facts
  clear hx2
  have HCS := Lib.hid hcs
  clear hcs
  have hfe7 : failF l p 151 = ((p : Int), 151) := by unfold failF; rw [if_neg (fun h => absurd h.1 (by decide))]
  rcases HCS.out with hq | hq | hq | hq | hq | hq | hq | ⟨hq, hq2⟩
  iterate 7
    · rw [hq] at hxb
      obtain ⟨fp, fe, hf⟩ : ∃ fp fe, failF l p 151 = (fp, fe) := ⟨_, _, rfl⟩
      have hfl := fun W => t5fail_any (some ⟨b, o, none⟩) l cap p (m) 0 151 p W (by omega) hlen
      rw [hf] at hfl
      have HFL := Lib.hid hfl
      have hfe : fe ≠ 0 := by have := failF_ne (l := l) (p := ((p : Nat) : Int)) (e := 151) (by decide); rw [hf] at this; exact this
      have hrr : RdR l a m d (.err fp fe) := by
        have h := (show beginJ l a m d = .err (failF l p 151).1 (failF l p 151).2 by rw [hfe7, HM2.out]; exact beginJ_many HP.out HC.out hbg)
        rw [hf] at h
        exact .err h
      have HRR := Lib.hid hrr
      clear hfl hf hrr
      go_wp2_with fail
      refine (HFL.out _).mono ?_
      rintro e1 w2 ⟨rfl, hb2⟩
      have HX3 := Lib.hid (HX2.out.keep hb2)
      clear h10 h11 h12 h13 f1 l1 c2 f2 l2 c3 f3 l3 hb2 hxb
      obtain ⟨⟨h10, h11, h12, h13⟩, ⟨f1, l1⟩, ⟨c2, f2, l2⟩, c3, f3, l3⟩ := HX3.out.facts
      go_wp2_with ((with_reducible refine bodyPost_ret (v := .tuple #[.agg zVal, .agg (txC (some ⟨b, o, none⟩) l.length cap fp (m) fe)]) ?_ rfl ?_); (simp only [results, Tryd.results33]; go_simp); exact ⟨.err fp fe, HRR.out, HX3.out.out _ _ _ _ _ _ _ _ _, hfe, m, rfl⟩)
  · skip
    have h48 : (48 : Int) ≤ (c.toNat : Int) := by omega
    have h57 : (c.toNat : Int) ≤ 57 := by omega
    have e0 : ((c.toNat : Int) == 34) = false := by simp; omega
    have n0 : ((c.toNat : Int) != 34) = true := by simp; omega
    have e1 : ((c.toNat : Int) == 91) = false := by simp; omega
    have n1 : ((c.toNat : Int) != 91) = true := by simp; omega
    have e2 : ((c.toNat : Int) == 123) = false := by simp; omega
    have n2 : ((c.toNat : Int) != 123) = true := by simp; omega
    have e3 : ((c.toNat : Int) == 45) = false := by simp; omega
    have n3 : ((c.toNat : Int) != 45) = true := by simp; omega
    have e4 : ((c.toNat : Int) == 110) = false := by simp; omega
    have n4 : ((c.toNat : Int) != 110) = true := by simp; omega
    have e5 : ((c.toNat : Int) == 116) = false := by simp; omega
    have n5 : ((c.toNat : Int) != 116) = true := by simp; omega
    have e6 : ((c.toNat : Int) == 102) = false := by simp; omega
    have n6 : ((c.toNat : Int) != 102) = true := by simp; omega
    obtain ⟨fp, fe, hf⟩ : ∃ fp fe, failF l p 151 = (fp, fe) := ⟨_, _, rfl⟩
    have hfl := fun W => t5fail_any (some ⟨b, o, none⟩) l cap p (m) 0 151 p W (by omega) hlen
    rw [hf] at hfl
    have HFL := Lib.hid hfl
    have hfe : fe ≠ 0 := by have := failF_ne (l := l) (p := ((p : Nat) : Int)) (e := 151) (by decide); rw [hf] at this; exact this
    have hrr : RdR l a m d (.err fp fe) := by
      have h := (show beginJ l a m d = .err (failF l p 151).1 (failF l p 151).2 by rw [hfe7, HM2.out]; exact beginJ_many HP.out HC.out hbg)
      rw [hf] at h
      exact .err h
    have HRR := Lib.hid hrr
    clear hfl hf hrr
    go_wp2_with fail
    refine (HFL.out _).mono ?_
    rintro e1 w2 ⟨rfl, hb2⟩
    have HX3 := Lib.hid (HX2.out.keep hb2)
    clear h10 h11 h12 h13 f1 l1 c2 f2 l2 c3 f3 l3 hb2 hxb
    obtain ⟨⟨h10, h11, h12, h13⟩, ⟨f1, l1⟩, ⟨c2, f2, l2⟩, c3, f3, l3⟩ := HX3.out.facts
    go_wp2_with ((with_reducible refine bodyPost_ret (v := .tuple #[.agg zVal, .agg (txC (some ⟨b, o, none⟩) l.length cap fp (m) fe)]) ?_ rfl ?_); (simp only [results, Tryd.results33]; go_simp); exact ⟨.err fp fe, HRR.out, HX3.out.out _ _ _ _ _ _ _ _ _, hfe, m, rfl⟩)
set_option maxRecDepth 100000 in
set_option maxHeartbeats 4000000 in
theorem t5rd_deep (A : Option Addr) (l : List UInt8) (cap a m d p : Nat) (w : World) (hr : Rd w A (byteV l)) (ha : a ≤ l.length) (hp : skipB l a = p) (hm : m ≤ 256) (hcap : l.length ≤ cap) (hlen : l.length ≤ 1048576)
    {c : UInt8} (hc : l[p]? = some c) (hq : c.toNat = 91 ∨ c.toNat = 123) (hm2 : m ≠ 256) (hd8 : d = 8) :
    Calls Tryd.prog 33 #[.agg (txC A l.length cap a m 0), .int .i64 d] w (RdPost A l cap a m d w) := by
  have hbg : beginsB c = true := by unfold beginsB; exact decide_eq_true (by omega)
  have hdi : ((d : Int) == 8) = true := by simp; omega
  have HM2 := Lib.hid hm2
  have HD8 := Lib.hid hd8
  obtain ⟨m1, hm1⟩ : ∃ m1 : Nat, m + 1 = m1 := ⟨_, rfl⟩
  have hmi : ((m : Int) == 256) = false := by simp; omega
  have hadd : IntKind.i64.wrap ((m : Int) + 1) = (m1 : Int) := by rw [IntWalk.i64_in _ (by omega)]; omega
  have hm9 : m1 ≤ 256 := by omega
  have HM1 := Lib.hid hm1
  clear hm1
  clear hm2 hd8
  have hlt := get_lt hc
  have hap : a ≤ p := by rw [← hp]; exact skipB_ge l a
  obtain ⟨b, o, rfl, hbl⟩ := hr.some_ (show 0 < l.length by omega)
  have HR := Lib.hid hr
  have HX := Lib.hid (XB.new w (some ⟨b, o, none⟩) l.length cap a m)
  have hpass := t5pass_any (some ⟨b, o, none⟩) l cap a m _ (hr.below HX.out.2.2.2) ha hcap hlen
  rw [hp] at hpass
  have HPA := Lib.hid hpass
  have HP := Lib.hid hp
  have HC := Lib.hid hc
  obtain ⟨y1, y2, y3, y4, y5, y6, y7, y8, y9, y10, y11, y12⟩ := neqs w.heap.size
  have hpi : ((p : Int) == (l.length : Int)) = false := by simp; omega
  clear hr hpass hp hc
  go_enter Tryd.func33, Tryd.ntmps33
  go_wp2_with fail
  refine HPA.out.mono ?_
  rintro e1 w1 ⟨rfl, hb1⟩
  have hx := HX.out.keep hb1
  clear HX hb1 HPA
  obtain ⟨⟨h10, h11, h12, h13⟩, ⟨f1, l1⟩, ⟨c2, f2, l2⟩, c3, f3, l3⟩ := hx.facts
  have hx2 := hx.put (p : Int) m
  clear hx
  go_upto_region 2 with (fail)
  obtain ⟨W2, hW2⟩ : ∃ W2, (((w1.setCell ⟨w.heap.size, 0, none⟩ (.slice (some ⟨b, o, none⟩) l.length cap)).setCell ⟨w.heap.size, 1, none⟩ (.int .i64 p)).setCell ⟨w.heap.size, 2, none⟩ (.int .i64 m)).setCell ⟨w.heap.size, 3, none⟩ (.int .i64 0) = W2 := ⟨_, rfl⟩
  rw [hW2] at hx2 ⊢
  have HX2 := Lib.hid hx2
  have hxb := BS.at_ (n := 0) (cap := 0) (HR.out.below hx2.2.2.2) HC.out
  clear hW2 h10 h11 h12 h13 f1 l1 c2 f2 l2 c3 f3 l3
  obtain ⟨⟨h10, h11, h12, h13⟩, ⟨f1, l1⟩, ⟨c2, f2, l2⟩, c3, f3, l3⟩ := hx2.facts
  clear hx2
  have hfe7 : failF l p 150 = ((p : Int), 150) := by unfold failF; rw [if_neg (fun h => absurd h.1 (by decide))]
  have HCS := Lib.hid hq
  clear hq
  rcases HCS.out with hq | hq
  all_goals
    rw [hq] at hxb
    obtain ⟨fp, fe, hf⟩ : ∃ fp fe, failF l p 150 = (fp, fe) := ⟨_, _, rfl⟩
    have hfl := fun W => t5fail_any (some ⟨b, o, none⟩) l cap p ((m1 : Int)) 0 150 p W (by omega) hlen
    rw [hf] at hfl
    have HFL := Lib.hid hfl
    have hfe : fe ≠ 0 := by have := failF_ne (l := l) (p := ((p : Nat) : Int)) (e := 150) (by decide); rw [hf] at this; exact this
    have hrr : RdR l a m d (.err fp fe) := by
      have h := (show beginJ l a m d = .err (failF l p 150).1 (failF l p 150).2 by rw [hfe7, HD8.out]; exact beginJ_deep HP.out HC.out hbg HM2.out HCS.out)
      rw [hf] at h
      exact .err h
    have HRR := Lib.hid hrr
    clear hfl hf hrr
    go_wp2_with fail
    refine (HFL.out _).mono ?_
    rintro e1 w2 ⟨rfl, hb2⟩
    have HX3 := Lib.hid ((HX2.out.set2 (m1 : Int)).keep hb2)
    clear h10 h11 h12 h13 f1 l1 c2 f2 l2 c3 f3 l3 hb2 hxb
    obtain ⟨⟨h10, h11, h12, h13⟩, ⟨f1, l1⟩, ⟨c2, f2, l2⟩, c3, f3, l3⟩ := HX3.out.facts
    go_wp2_with ((with_reducible refine bodyPost_ret (v := .tuple #[.agg zVal, .agg (txC (some ⟨b, o, none⟩) l.length cap fp ((m1 : Int)) fe)]) ?_ rfl ?_); (simp only [results, Tryd.results33]; go_simp); exact ⟨.err fp fe, HRR.out, HX3.out.out _ _ _ _ _ _ _ _ _, hfe, (m1 : Int), rfl⟩)
end Go.Proofs.YtalhoacancbldaaDoor

/- The walk of the reference davenportref05: Read. -/
namespace Go.Proofs.YtalhoacancbldaaDoor
set_option linter.unusedVariables false
set_option linter.unusedSimpArgs false
open Go.RowKit
attribute [local go_sem] run_index_arr run_part_agg run_part_one run_field_agg
set_option maxRecDepth 100000 in
set_option maxHeartbeats 4000000 in
theorem t5rd_end (A : Option Addr) (l : List UInt8) (cap a m d p : Nat) (w : World) (hr : Rd w A (byteV l)) (ha : a ≤ l.length) (hp : skipB l a = p) (hm : m ≤ 256) (hcap : l.length ≤ cap) (hlen : l.length ≤ 1048576) (hpe : p = l.length) :
    Calls Tryd.prog 33 #[.agg (txC A l.length cap a m 0), .int .i64 d] w (RdPost A l cap a m d w) := by
  have HR := Lib.hid hr
  have HX := Lib.hid (XB.new w A l.length cap a m)
  have hpl : p ≤ l.length := by rw [← hp]; exact skipB_le ha
  have hap : a ≤ p := by rw [← hp]; exact skipB_ge l a
  have hpass := t5pass_any A l cap a m _ (HR.out.below HX.out.2.2.2) ha hcap hlen
  rw [hp] at hpass
  have HPA := Lib.hid hpass
  have HP := Lib.hid hp
  obtain ⟨y1, y2, y3, y4, y5, y6, y7, y8, y9, y10, y11, y12⟩ := neqs w.heap.size
  clear hr hpass hp
  go_enter Tryd.func33, Tryd.ntmps33
  go_wp2_with fail
  refine HPA.out.mono ?_
  rintro e1 w1 ⟨rfl, hb1⟩
  have hx := HX.out.keep hb1
  clear HX hb1 HPA
  obtain ⟨⟨h10, h11, h12, h13⟩, ⟨f1, l1⟩, ⟨c2, f2, l2⟩, c3, f3, l3⟩ := hx.facts
  have hpi : ((p : Int) == (l.length : Int)) = true := by simp; omega
  have HPE := Lib.hid hpe
  obtain ⟨fp, fe, hf⟩ : ∃ fp fe, failF l p 7 = (fp, fe) := ⟨_, _, rfl⟩
  have hfl := fun W => t5fail_any A l cap p m 0 7 p W hpl hlen
  rw [hf] at hfl
  have HFL := Lib.hid hfl
  have hfe : fe ≠ 0 := by have := failF_ne (l := l) (p := ((p : Nat) : Int)) (e := 7) (by decide); rw [hf] at this; exact this
  have hrr : RdR l a m d (.err fp fe) := by
    have h := beginJ_end (l := l) (m := m) (d := d) HP.out (by rw [hpe]; exact List.getElem?_eq_none (Nat.le_refl _))
    rw [hf] at h
    exact .err h
  have HRR := Lib.hid hrr
  have HX1 := Lib.hid hx
  clear hfl hf hrr hpe hx
  have HX2 := Lib.hid (HX1.out.put (p : Int) m)
  clear HX1
  go_wp2_with fail
  refine (HFL.out _).mono ?_
  rintro e1 w2 ⟨rfl, hb2⟩
  have HX3 := Lib.hid (HX2.out.keep hb2)
  clear h10 h11 h12 h13 f1 l1 c2 f2 l2 c3 f3 l3 hb2 HX2
  obtain ⟨⟨h10, h11, h12, h13⟩, ⟨f1, l1⟩, ⟨c2, f2, l2⟩, c3, f3, l3⟩ := HX3.out.facts
  go_wp2_with ((with_reducible refine bodyPost_ret (v := .tuple #[.agg zVal, .agg (txC A l.length cap fp m fe)]) ?_ rfl ?_); (simp only [results, Tryd.results33]; go_simp); exact ⟨.err fp fe, HRR.out, HX3.out.out _ _ _ _ _ _ _ _ _, hfe, m, rfl⟩)

theorem t5read_step (A : Option Addr) (l : List UInt8) (cap K : Nat) (hrd : RdAll A l cap K) (hcap : l.length ≤ cap) (hlen : l.length ≤ 1048576) : RdAll A l cap (K + 1) := by
  intro a m d w ha hK hm hd hr
  obtain ⟨p, hp⟩ : ∃ p, skipB l a = p := ⟨_, rfl⟩
  have hpl : p ≤ l.length := by rw [← hp]; exact skipB_le ha
  by_cases hpe : p = l.length
  · exact t5rd_end A l cap a m d p w hr ha hp hm hcap hlen hpe
  have hlt : p < l.length := by omega
  obtain ⟨c, hc⟩ : ∃ c, l[p]? = some c := ⟨_, List.getElem?_eq_getElem hlt⟩
  cases hbg : beginsB c with
  | false => exact t5rd_no A l cap a m d p w hr ha hp hm hcap hlen hc hbg
  | true =>
    by_cases hm2 : m = 256
    · exact t5rd_many A l cap a m d p w hr ha hp hm hcap hlen hc hbg hm2
    have hq := of_decide_eq_true hbg
    have hlit : ∀ u : UInt8, c.toNat = u.toNat → c = u := fun u h => UInt8.toNat_inj.1 h
    have hop : ∀ u : UInt8, c = u → (u.toNat = 91 ∨ u.toNat = 123) → d = 8 → Calls Tryd.prog 33 #[.agg (txC A l.length cap a m 0), .int .i64 d] w (RdPost A l cap a m d w) := fun u hu h h8 => by
      subst hu
      exact t5rd_deep A l cap a m d p w hr ha hp hm hcap hlen hc h hm2 h8
    rcases hq with h | h | h | h | h | h | h | h
    · obtain rfl := hlit 34 h; exact t5rd_text A l cap a m d p w hr ha hp hm hcap hlen hc hm2
    · obtain rfl := hlit 91 h
      by_cases h8 : d = 8
      · exact hop _ rfl (.inl rfl) h8
      · exact t5rd_list A l cap K a m d p w hrd hr ha hK hp hm hcap hlen hc hm2 (by omega)
    · obtain rfl := hlit 123 h
      by_cases h8 : d = 8
      · exact hop _ rfl (.inr rfl) h8
      · exact t5rd_object A l cap K a m d p w hrd hr ha hK hp hm hcap hlen hc hm2 (by omega)
    · exact t5rd_neg A l cap a m d p w hr ha hp hm hcap hlen hc h hm2
    · obtain rfl := hlit 110 h; exact t5rd_null A l cap a m d p w hr ha hp hm hcap hlen hc hm2
    · obtain rfl := hlit 116 h; exact t5rd_true A l cap a m d p w hr ha hp hm hcap hlen hc hm2
    · obtain rfl := hlit 102 h; exact t5rd_false A l cap a m d p w hr ha hp hm hcap hlen hc hm2
    · exact t5rd_num A l cap a m d p w hr ha hp hm hcap hlen hc h hm2
theorem t5read_all (A : Option Addr) (l : List UInt8) (cap : Nat) (hcap : l.length ≤ cap) (hlen : l.length ≤ 1048576) : ∀ K, RdAll A l cap K
  | 0 => fun a m d w ha hK => absurd hK (Nat.not_lt_zero _)
  | K + 1 => t5read_step A l cap K (t5read_all A l cap hcap hlen K) hcap hlen
/-- the reference's Read, at any place within -/
theorem t5read_any (A : Option Addr) (l : List UInt8) (cap a m d : Nat) (w : World) (hr : Rd w A (byteV l)) (ha : a ≤ l.length) (hm : m ≤ 256) (hd : d ≤ 8) (hcap : l.length ≤ cap) (hlen : l.length ≤ 1048576) :
    Calls Tryd.prog 33 #[.agg (txC A l.length cap a m 0), .int .i64 d] w (RdPost A l cap a m d w) :=
  t5read_all A l cap hcap hlen (l.length - a + 1) a m d w ha (Nat.lt_succ_self _) hm hd hr
end Go.Proofs.YtalhoacancbldaaDoor
