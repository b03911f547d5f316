import Derived.Test.YtalhoacancbldaaDoorRead5g
/- Plain: how a value begins, case by case; what a list's or an object's rest says of a value (for the walk of the reference's Read). -/
namespace Go.Proofs.YtalhoacancbldaaDoor
set_option linter.unusedVariables false
set_option linter.unusedSimpArgs false
open Go.RowKit
attribute [local go_sem] run_index_arr run_part_agg run_part_one run_field_agg

theorem beginJ_end {l : List UInt8} {a m d p : Nat} (hp : skipB l a = p) (h : l[p]? = none) : beginJ l a m d = .err (failF l p 7).1 (failF l p 7).2 := by
  unfold beginJ; rw [hp, h]
theorem beginJ_no {l : List UInt8} {a m d p : Nat} {c : UInt8} (hp : skipB l a = p) (h : l[p]? = some c) (hb : beginsB c = false) : beginJ l a m d = .err (failF l p 7).1 (failF l p 7).2 := by
  unfold beginJ; rw [hp, h]; simp only; rw [if_pos hb]
theorem beginJ_many {l : List UInt8} {a d p : Nat} {c : UInt8} (hp : skipB l a = p) (h : l[p]? = some c) (hb : beginsB c = true) : beginJ l a 256 d = .err p 151 := by
  unfold beginJ; rw [hp, h]; simp only; rw [if_neg (by rw [hb]; decide), if_pos trivial]
theorem beginJ_deep {l : List UInt8} {a m p : Nat} {c : UInt8} (hp : skipB l a = p) (h : l[p]? = some c) (hb : beginsB c = true) (hm : m ≠ 256) (ho : c.toNat = 91 ∨ c.toNat = 123) : beginJ l a m 8 = .err p 150 := by
  unfold beginJ; rw [hp, h]; simp only; rw [if_neg (by rw [hb]; decide), if_neg hm, if_pos ho, if_pos trivial]
theorem beginJ_open {l : List UInt8} {a m d p : Nat} {c : UInt8} (hp : skipB l a = p) (h : l[p]? = some c) (hb : beginsB c = true) (hm : m ≠ 256) (ho : c.toNat = 91 ∨ c.toNat = 123) (hd : d ≠ 8) : beginJ l a m d = .opens p (decide (c.toNat = 123)) := by
  unfold beginJ; rw [hp, h]; simp only; rw [if_neg (by rw [hb]; decide), if_neg hm, if_pos ho, if_neg hd]
theorem beginJ_atom {l : List UInt8} {a m d p : Nat} {c : UInt8} (hp : skipB l a = p) (h : l[p]? = some c) (hb : beginsB c = true) (hm : m ≠ 256) (ho : ¬ (c.toNat = 91 ∨ c.toNat = 123)) :
    beginJ l a m d = match atomJ l p c with | .inl (v, q) => .atom v q | .inr (q, e) => .err q e := by
  unfold beginJ; rw [hp, h]; simp only; rw [if_neg (by rw [hb]; decide), if_neg hm, if_neg ho]
  cases atomJ l p c with
  | inl r => rfl
  | inr r => rfl
/-- what a list's rest says of a value -/
theorem rd_of_ls {l : List UInt8} {a m d p : Nat} {r : RRes} (h : beginJ l a m d = .opens p false) (hr : LsS l (skipB l (p + 1)) (m + 1) d r) : RdR l a m d r := by
  unfold LsS at hr
  by_cases hc : l[skipB l (p + 1)]? = some 93
  · rw [if_pos hc] at hr; rw [hr]; exact .list0 h hc
  · rw [if_neg hc] at hr; exact .list1 h hc hr
theorem rd_of_ob {l : List UInt8} {a m d p : Nat} {r : RRes} (h : beginJ l a m d = .opens p true) (hr : ObS l (skipB l (p + 1)) (m + 1) d r) : RdR l a m d r := by
  unfold ObS at hr
  by_cases hc : l[skipB l (p + 1)]? = some 125
  · rw [if_pos hc] at hr; rw [hr]; exact .obj0 h hc
  · rw [if_neg hc] at hr; exact .obj1 h hc hr
end Go.Proofs.YtalhoacancbldaaDoor

/- The walk of the reference davenportref05: Read, which no value begins, or too many, or too deep. -/
namespace Go.Proofs.YtalhoacancbldaaDoor
set_option linter.unusedVariables false
set_option linter.unusedSimpArgs false
open Go.RowKit
attribute [local go_sem] run_index_arr run_part_agg run_part_one run_field_agg
theorem XB.put {w wr : World} {A : Option Addr} {n cap : Nat} {p m : Int} (h : XB w A n cap p m wr) (q k : Int) :
    XB w A n cap q k ((((wr.setCell ⟨w.heap.size, 0, none⟩ (.slice A n cap)).setCell ⟨w.heap.size, 1, none⟩ (.int .i64 q)).setCell ⟨w.heap.size, 2, none⟩ (.int .i64 k)).setCell ⟨w.heap.size, 3, none⟩ (.int .i64 0)) :=
  ⟨(((h.1.set_ 0 _).set_ 1 _).set_ 2 _).set_ 3 _, (((h.2.1.far (by simp) _).far (by simp) _).far (by simp) _).far (by simp) _, (((h.2.2.1.far (by simp; omega) _).far (by simp; omega) _).far (by simp; omega) _).far (by simp; omega) _, bel_put4 h.2.2.2 (Nat.le_refl _) _ _ _ _⟩
set_option maxRecDepth 100000 in
set_option maxHeartbeats 4000000 in
theorem t5rd_no (A : Option Addr) (l : List UInt8) (cap a m d p : Nat) (w : World) (hr : Rd w A (byteV l)) (ha : a ≤ l.length) (hp : skipB l a = p) (hm : m ≤ 256) (hcap : l.length ≤ cap) (hlen : l.length ≤ 1048576)
    {c : UInt8} (hc : l[p]? = some c) (hbg : beginsB c = false) :
    Calls Tryd.prog 33 #[.agg (txC A l.length cap a m 0), .int .i64 d] w (RdPost A l cap a m d w) := by
  have hno : ¬ (c.toNat = 34 ∨ c.toNat = 91 ∨ c.toNat = 123 ∨ c.toNat = 45 ∨ c.toNat = 110 ∨ c.toNat = 116 ∨ c.toNat = 102 ∨ (48 ≤ c.toNat ∧ c.toNat ≤ 57)) := by
    unfold beginsB at hbg; exact of_decide_eq_false hbg
  have e0 : ((c.toNat : Int) == 34) = false := by simp; omega
  have n0 : ((c.toNat : Int) != 34) = true := by simp; omega
  have e1 : ((c.toNat : Int) == 91) = false := by simp; omega
  have n1 : ((c.toNat : Int) != 91) = true := by simp; omega
  have e2 : ((c.toNat : Int) == 123) = false := by simp; omega
  have n2 : ((c.toNat : Int) != 123) = true := by simp; omega
  have e3 : ((c.toNat : Int) == 45) = false := by simp; omega
  have n3 : ((c.toNat : Int) != 45) = true := by simp; omega
  have e4 : ((c.toNat : Int) == 110) = false := by simp; omega
  have n4 : ((c.toNat : Int) != 110) = true := by simp; omega
  have e5 : ((c.toNat : Int) == 116) = false := by simp; omega
  have n5 : ((c.toNat : Int) != 116) = true := by simp; omega
  have e6 : ((c.toNat : Int) == 102) = false := by simp; omega
  have n6 : ((c.toNat : Int) != 102) = true := by simp; omega
  have HNO := Lib.hid hno
  clear hno
  have hlt := get_lt hc
  have hap : a ≤ p := by rw [← hp]; exact skipB_ge l a
  obtain ⟨b, o, rfl, hbl⟩ := hr.some_ (show 0 < l.length by omega)
  have HR := Lib.hid hr
  have HX := Lib.hid (XB.new w (some ⟨b, o, none⟩) l.length cap a m)
  have hpass := t5pass_any (some ⟨b, o, none⟩) l cap a m _ (hr.below HX.out.2.2.2) ha hcap hlen
  rw [hp] at hpass
  have HPA := Lib.hid hpass
  have HP := Lib.hid hp
  have HC := Lib.hid hc
  obtain ⟨y1, y2, y3, y4, y5, y6, y7, y8, y9, y10, y11, y12⟩ := neqs w.heap.size
  have hpi : ((p : Int) == (l.length : Int)) = false := by simp; omega
  clear hr hpass hp hc
  go_enter Tryd.func33, Tryd.ntmps33
  go_wp2_with fail
  refine HPA.out.mono ?_
  rintro e1 w1 ⟨rfl, hb1⟩
  have hx := HX.out.keep hb1
  clear HX hb1 HPA
  obtain ⟨⟨h10, h11, h12, h13⟩, ⟨f1, l1⟩, ⟨c2, f2, l2⟩, c3, f3, l3⟩ := hx.facts
  have hx2 := hx.put (p : Int) m
  clear hx
  go_upto_region 2 with (fail)
  obtain ⟨W2, hW2⟩ : ∃ W2, (((w1.setCell ⟨w.heap.size, 0, none⟩ (.slice (some ⟨b, o, none⟩) l.length cap)).setCell ⟨w.heap.size, 1, none⟩ (.int .i64 p)).setCell ⟨w.heap.size, 2, none⟩ (.int .i64 m)).setCell ⟨w.heap.size, 3, none⟩ (.int .i64 0) = W2 := ⟨_, rfl⟩
  rw [hW2] at hx2 ⊢
  have HX2 := Lib.hid hx2
  have hxb := BS.at_ (n := 0) (cap := 0) (HR.out.below hx2.2.2.2) HC.out
  clear hW2 h10 h11 h12 h13 f1 l1 c2 f2 l2 c3 f3 l3
  obtain ⟨⟨h10, h11, h12, h13⟩, ⟨f1, l1⟩, ⟨c2, f2, l2⟩, c3, f3, l3⟩ := hx2.facts
  clear hx2
  by_cases h48 : (48 : Int) ≤ (c.toNat : Int)
  · have h57 : ¬ (c.toNat : Int) ≤ 57 := by have := HNO.out; omega
    obtain ⟨fp, fe, hf⟩ : ∃ fp fe, failF l p 7 = (fp, fe) := ⟨_, _, rfl⟩
    have hfl := fun W => t5fail_any (some ⟨b, o, none⟩) l cap p (m) 0 7 p W (by omega) hlen
    rw [hf] at hfl
    have HFL := Lib.hid hfl
    have hfe : fe ≠ 0 := by have := failF_ne (l := l) (p := ((p : Nat) : Int)) (e := 7) (by decide); rw [hf] at this; exact this
    have hrr : RdR l a m d (.err fp fe) := by
      have h := beginJ_no (l := l) (m := m) (d := d) HP.out HC.out hbg
      rw [hf] at h
      exact .err h
    have HRR := Lib.hid hrr
    clear hfl hf hrr
    go_wp2_with fail
    refine (HFL.out _).mono ?_
    rintro e1 w2 ⟨rfl, hb2⟩
    have HX3 := Lib.hid (HX2.out.keep hb2)
    clear h10 h11 h12 h13 f1 l1 c2 f2 l2 c3 f3 l3 hb2 hxb
    obtain ⟨⟨h10, h11, h12, h13⟩, ⟨f1, l1⟩, ⟨c2, f2, l2⟩, c3, f3, l3⟩ := HX3.out.facts
    go_wp2_with ((with_reducible refine bodyPost_ret (v := .tuple #[.agg zVal, .agg (txC (some ⟨b, o, none⟩) l.length cap fp (m) fe)]) ?_ rfl ?_); (simp only [results, Tryd.results33]; go_simp); exact ⟨.err fp fe, HRR.out, HX3.out.out _ _ _ _ _ _ _ _ _, hfe, m, rfl⟩)
  · skip
    obtain ⟨fp, fe, hf⟩ : ∃ fp fe, failF l p 7 = (fp, fe) := ⟨_, _, rfl⟩
    have hfl := fun W => t5fail_any (some ⟨b, o, none⟩) l cap p (m) 0 7 p W (by omega) hlen
    rw [hf] at hfl
    have HFL := Lib.hid hfl
    have hfe : fe ≠ 0 := by have := failF_ne (l := l) (p := ((p : Nat) : Int)) (e := 7) (by decide); rw [hf] at this; exact this
    have hrr : RdR l a m d (.err fp fe) := by
      have h := beginJ_no (l := l) (m := m) (d := d) HP.out HC.out hbg
      rw [hf] at h
      exact .err h
    have HRR := Lib.hid hrr
    clear hfl hf hrr
    go_wp2_with fail
    refine (HFL.out _).mono ?_
    rintro e1 w2 ⟨rfl, hb2⟩
    have HX3 := Lib.hid (HX2.out.keep hb2)
    clear h10 h11 h12 h13 f1 l1 c2 f2 l2 c3 f3 l3 hb2 hxb
    obtain ⟨⟨h10, h11, h12, h13⟩, ⟨f1, l1⟩, ⟨c2, f2, l2⟩, c3, f3, l3⟩ := HX3.out.facts
    go_wp2_with ((with_reducible refine bodyPost_ret (v := .tuple #[.agg zVal, .agg (txC (some ⟨b, o, none⟩) l.length cap fp (m) fe)]) ?_ rfl ?_); (simp only [results, Tryd.results33]; go_simp); exact ⟨.err fp fe, HRR.out, HX3.out.out _ _ _ _ _ _ _ _ _, hfe, m, rfl⟩)
end Go.Proofs.YtalhoacancbldaaDoor
