import Derived.Test.YtoejdhabpajhlaaDoorRef2
import Derived.Test.YtoejdhabpajhlaaDoorQuote6
import Derived.Test.YtoejdhabpajhlaaDoorBase
/- Plain: the program's sign of a quoted text is the reference's. -/
namespace Go.Proofs.YtoejdhabpajhlaaDoor
set_option linter.unusedVariables false
set_option linter.unusedSimpArgs false
open Go.RowKit

theorem cpBegin_ascii {c : UInt8} {r : List UInt8} (h : c.toNat < 128) : cpBegin (c :: r) = (c.toNat, 1) := by
  rw [begin_1 ((ok1 c r).2 h)]
  simp [cpNum]
theorem cpBegin_high {c : UInt8} {r : List UInt8} (h : ¬ c.toNat < 128) (h2 : (cpBegin (c :: r)).2 ≠ 0) : 128 ≤ (cpBegin (c :: r)).1 := by
  have h1 : cpOk (c :: r) 1 = false := by rw [Bool.eq_false_iff]; intro e; exact h ((ok1 c r).1 e)
  have key : ∀ n, 2 ≤ n → cpOk (c :: r) n = true → 128 ≤ cpNum (c :: r) n := fun n hn hk => by
    obtain ⟨e1, e2, e3⟩ := (cpOk_iff _ _).1 hk
    rcases Nat.lt_or_ge (cpNum (c :: r) n) 128 with hlt | hge
    · exfalso
      have := congrArg List.length e3
      unfold cpBytes at this
      rw [if_pos hlt] at this
      rw [List.length_take, List.length_singleton] at this
      omega
    · exact hge
  unfold cpBegin at h2 ⊢
  rw [h1] at h2 ⊢
  simp only [Bool.false_eq_true, if_false] at h2 ⊢
  split
  · exact key 2 (by omega) ‹_›
  · split
    · exact key 3 (by omega) ‹_›
    · split
      · exact key 4 (by omega) ‹_›
      · simp_all
theorem tailB_of {l : List UInt8} {c : UInt8} {r : List UInt8} (h : l = c :: r) : tailB l = if c.toNat = 92 ∨ c.toNat < 32 ∨ c.toNat = 34 ∨ (cpBegin l).2 = 0 then (0, 0) else cpBegin l := by
  unfold tailB
  by_cases h8 : c.toNat < 128
  · have e : cpBegin l = (c.toNat, 1) := by rw [h]; exact cpBegin_ascii h8
    rw [e]
    simp only
    by_cases hc : c.toNat < 32 ∨ c.toNat = 34 ∨ c.toNat = 92
    · rw [if_pos (.inr hc), if_pos (by rcases hc with h | h | h; exact .inr (.inl h); exact .inr (.inr (.inl h)); exact .inl h)]
    · rw [if_neg (by rintro (h | h); omega; exact hc h), if_neg (by rintro (h | h | h | h); exact hc (.inr (.inr h)); exact hc (.inl h); exact hc (.inr (.inl h)); omega)]
  · by_cases h0 : (cpBegin l).2 = 0
    · rw [if_pos (.inl h0), if_pos (.inr (.inr (.inr h0)))]
    · have hb : 128 ≤ (cpBegin l).1 := by rw [h] at h0 ⊢; exact cpBegin_high h8 h0
      rw [if_neg (by rintro (h | h | h | h) <;> omega), if_neg (by rintro (h | h | h | h) <;> omega)]

/-- the sign that stands at a place, in the program's words and in the reference's -/
theorem b2_same {l : List UInt8} {p : Nat} {c : UInt8} (hc : l[p]? = some c) :
    ((qsS l p).2.2 = 0 ∧ qsS l p = (((rB2 (l.drop p)).1 : Int), ((p + (rB2 (l.drop p)).2 : Nat) : Int), 0) ∧ (rB2 (l.drop p)).2 ≠ 0) ∨
    ((rB2 (l.drop p)).2 = 0 ∧ (qsS l p).2.2 = (if 128 ≤ c.toNat then 110 else 7)) := by
  have hlt := (List.getElem?_eq_some_iff.1 hc).1
  have hd : l.drop p = c :: l.drop (p + 1) := by
    rw [List.drop_eq_getElem_cons hlt, (List.getElem?_eq_some_iff.1 hc).2]
  have hd0 : (l.drop p)[0]? = some c := by rw [List.getElem?_drop, Nat.add_zero]; exact hc
  have hd1 : (l.drop p)[1]? = l[p + 1]? := by rw [List.getElem?_drop]
  have hu0 : unitO (l.drop p) 0 = unitO l p := unitO_drop (by omega)
  have ht := tailB_of hd
  have hq : qsS l p = if c.toNat = 92 then escS l p else if c.toNat < 32 ∨ c.toNat = 34 then (0, 0, 7) else nextR l p := by rw [qsS, hc]
  rw [rB2_eq, hd0, hd1]
  by_cases h92 : c = 92
  · subst h92
    have hT : tailB (l.drop p) = (0, 0) := by rw [ht, if_pos (.inl rfl)]
    have hE : (if 128 ≤ (92 : UInt8).toNat then (110 : Int) else 7) = 7 := by decide
    have hq2 : qsS l p = escS l p := by rw [hq]; exact if_pos rfl
    rw [if_pos rfl, hq2, hE]
    unfold escS
    cases hu : unitO l p with
    | some u =>
      have hn := unitO_lt hu
      have h117 : l[p + 1]? = some 117 := by
        unfold unitO at hu
        split at hu
        · cases hu
        · rename_i hh
          simp only [not_or, Classical.not_not] at hh
          exact hh.2.2
      have hln : l[p + 1]?.bind (fun c => letterS c.toNat) = none := by rw [h117]; rfl
      rw [hln]
      simp only
      have hub : unitB (l.drop p) = if isCp (u : Int) then (u, 6) else if 55296 ≤ u ∧ u ≤ 56319 then
          match unitO l (p + 6) with
          | some v => if 56320 ≤ v ∧ v ≤ 57343 then (65536 + 1024 * (u - 55296) + (v - 56320), 12) else (0, 0)
          | none => (0, 0)
        else (0, 0) := by
        unfold unitB
        rw [hu0, hu, hT]
        have h6 : unitO (l.drop p) 6 = unitO l (p + 6) := by
          have a1 := unitO_drop (l := l) (a := p + 6) (by omega)
          have a2 := unitO_drop (l := l.drop p) (a := 6) (by rw [List.length_drop]; omega)
          rw [List.drop_drop] at a2
          rw [← a2, a1]
        rw [h6]
        rfl
      rw [hub]
      have hcs : 0 < cpSize (u : Int) ↔ isCp (u : Int) = true := by
        rw [isCp_iff, cpSize_eq]
        repeat' split
        all_goals omega
      by_cases hs : 0 < cpSize (u : Int)
      · rw [if_pos hs, if_pos (hcs.1 hs)]
        exact .inl ⟨rfl, by simp, by simp⟩
      · have hncp : ¬ isCp (u : Int) = true := fun e => hs (hcs.2 e)
        have hrange : 55296 ≤ u ∧ u ≤ 57343 := by
          have := hncp
          rw [isCp_iff] at this
          omega
        rw [if_neg hs, if_neg hncp]
        by_cases hh : u < 56320
        · rw [if_pos hh, if_pos (show 55296 ≤ u ∧ u ≤ 56319 by omega)]
          cases hv : unitO l (p + 6) with
          | none => exact .inr ⟨rfl, rfl⟩
          | some v =>
            simp only
            by_cases hv2 : 56320 ≤ v ∧ v ≤ 57343
            · rw [if_pos hv2, if_pos hv2]
              exact .inl ⟨rfl, by simp only [Prod.mk.injEq, and_true]; omega, by simp⟩
            · rw [if_neg hv2, if_neg hv2]
              exact .inr ⟨rfl, rfl⟩
        · rw [if_neg hh, if_neg (show ¬ (55296 ≤ u ∧ u ≤ 56319) by omega)]
          exact .inr ⟨rfl, rfl⟩
    | none =>
      have hub : unitB (l.drop p) = (0, 0) := by unfold unitB; rw [hu0, hu, hT]
      rw [hub]
      simp only
      cases h1 : l[p + 1]? with
      | none => exact .inr ⟨rfl, rfl⟩
      | some d =>
        simp only [Option.bind_some]
        cases hx : letterS d.toNat with
        | none => exact .inr ⟨rfl, rfl⟩
        | some x => exact .inl ⟨rfl, by simp, by simp⟩
  · have hn92 : c.toNat ≠ 92 := fun e => h92 (UInt8.toNat_inj.1 (by simpa using e))
    have huN : unitO l p = none := by unfold unitO; rw [if_pos (.inr (.inl (by rw [hc]; simpa using h92)))]
    have hub : unitB (l.drop p) = tailB (l.drop p) := by unfold unitB; rw [hu0, huN]
    rw [if_neg (by simpa using h92), hub, hq, if_neg hn92, ht]
    simp only
    by_cases hlow : c.toNat < 32 ∨ c.toNat = 34
    · rw [if_pos hlow, if_pos (by rcases hlow with h | h; exact .inr (.inl h); exact .inr (.inr (.inl h)))]
      exact .inr ⟨rfl, by rw [if_neg (by omega)]⟩
    · rw [if_neg hlow]
      have hnr : nextR l (p : Int) = if (cpBegin (l.drop p)).2 = 0 then (0, 0, 110) else (((cpBegin (l.drop p)).1 : Int), (p : Int) + (cpBegin (l.drop p)).2, 0) := by
        unfold nextR
        rw [if_neg (by omega), if_neg (by omega), Int.toNat_natCast]
      rw [hnr]
      by_cases h0 : (cpBegin (l.drop p)).2 = 0
      · have h128 : 128 ≤ c.toNat := by
          rcases Nat.lt_or_ge c.toNat 128 with h | h
          · rw [hd, cpBegin_ascii h] at h0; simp at h0
          · exact h
        rw [if_pos h0, if_pos (.inr (.inr (.inr h0)))]
        exact .inr ⟨rfl, by rw [if_pos h128]⟩
      · rw [if_neg h0, if_neg (by rintro (h | h | h | h); exact hn92 h; exact hlow (.inl h); exact hlow (.inr h); exact h0 h)]
        exact .inl ⟨rfl, by simp, h0⟩
end Go.Proofs.YtoejdhabpajhlaaDoor

/- The walk of the reference davenportref02: Read. -/
namespace Go.Proofs.YtoejdhabpajhlaaDoor
set_option linter.unusedVariables false
set_option linter.unusedSimpArgs false
open Go.RowKit
attribute [local go_sem] run_index_arr run_part_agg run_part_one run_field_agg

theorem infoInt : (Tryd.prog.info? 3).map (fun i => (i.zero, i.size, i.bytes)) = some (some (.int .i64 0), 1, 8) := by kernel_rfl
def intV (l : List Int) : List Value := l.map (Value.int .i64)
/-- a slice value reads as a row of ints -/
def IS (w : World) (v : Value) (l : List Int) : Prop := ∃ A cap, v = .slice A l.length cap ∧ l.length ≤ cap ∧ Rd w A (intV l)
theorem IS.of_own {w : World} {base : Nat} {e : TypeId} {v : Value} {l : List Int} {n : Nat} (hn : n = l.length) (h : w.ownsRow base e 1 v n (intV l)) : IS w v l := by
  subst hn
  obtain ⟨A, cap, rfl, hc, hr⟩ := Rd.of_own h
  exact ⟨A, cap, rfl, hc, hr⟩
theorem rd_len {w : World} {A : Option Addr} {l : List UInt8} (h : Rd w A (byteV l)) : A = none → l.length = 0 := by
  intro e
  rcases Nat.eq_zero_or_pos l.length with h0 | h0
  · exact h0
  · obtain ⟨b, o, e2, _⟩ := h.some_ h0
    rw [e] at e2; cases e2
theorem gb_of_below {w w' : World} (h : Below w.heap.size w w') : w.grownBy w' none := ⟨h.os, h.tape, h.output, h.size, fun k hk _ => h.block k hk⟩
theorem own_below {w w' : World} {base : Nat} {e : TypeId} {size n : Nat} {v : Value} {xs : List Value} (h : w.ownsRow base e size v n xs) (hb : Below w.heap.size w w') : w'.ownsRow base e size v n xs :=
  h.kept (gb_of_below hb) (by cases v.ownBlock <;> simp)

def RReadPost (l : List UInt8) (a : Nat) (w : World) (e : Ending) (w' : World) : Prop :=
  (∃ v, e = .returned (.tuple #[v, .int .i64 (qRead l a).2.1, .int .i64 (qRead l a).2.2]) ∧ ((qRead l a).2.2 = 0 → w'.ownsRow w.heap.size 3 1 v ((signsL l (a + 1)).map Prod.fst).length (intV ((signsL l (a + 1)).map Prod.fst)))) ∧ Below w.heap.size w w'
theorem qRead_at {l : List UInt8} {a p : Nat} {pre : List (Int × Int)} (ha : l[a]? = some 34) (hs : signsL l (a + 1) = pre) (hp : qEnd (a + 1) pre = p) :
    qRead l a = if l[p]? = some 34 then (qBytes pre, (p : Int) + 1, 0) else ([], (p : Int), (qSign l (p : Nat)).2.2) := by
  have hlt := (List.getElem?_eq_some_iff.1 ha).1
  unfold qRead
  rw [if_neg (by omega), if_neg (by omega), Int.toNat_natCast, if_neg (by rw [ha]; simp), hs, hp]

set_option maxRecDepth 100000 in
set_option maxHeartbeats 4000000 in
theorem rRead_go (v : Value) (l : List UInt8) (a : Nat) (w : World) (hv : BS w v l) (hl : l.length ≤ 4194304) (ha : l[a]? = some 34) :
    Calls Tryd.prog 64 #[v, .int .i64 a] w (RReadPost l a w) := by
  obtain ⟨i0, hi, hz0, hz1, hz2⟩ := info_parts infoInt
  have HBS := Lib.hid hv
  obtain ⟨A, cap, rfl, hcap, hr⟩ := hv
  have halt := (List.getElem?_eq_some_iff.1 ha).1
  obtain ⟨b, o, rfl, hb⟩ := hr.some_ (by omega)
  have hxa := BS.at_ (n := 0) (cap := 0) hr ha
  have HA := Lib.hid ha
  have hane : ((a : Int) == (l.length : Int)) = false := by simp; omega
  clear ha
  go_enter Tryd.func64, Tryd.ntmps64
  go_wp2
  go_loopg [1, 7] (l.length - a) (fun gk s1 s7 wr => ∃ (p : Nat) (pre : List (Int × Int)), a + 1 ≤ p ∧ p ≤ l.length ∧ gk = l.length + 1 - p ∧ s1 = .int .i64 p ∧ wr.ownsRow w.heap.size 3 1 s7 pre.length (intV (pre.map Prod.fst)) ∧ Below w.heap.size w wr ∧
    Hid (signsL l (a + 1) = pre ++ signsL l p ∧ qEnd (a + 1) pre = p) ∧ pre.length ≤ p)
  case atStart => exact ⟨a + 1, [], by omega, by omega, by omega, by go_num, World.ownsRow_nil _ _ _ _, Below.refl _ _, Lib.hid ⟨rfl, rfl⟩, by simp⟩
  case round =>
    obtain ⟨p, pre, hp1, hp2, hgk, rfl, hown, hbw, HS, hpl⟩ := hrel
    have HG := Lib.hid hgk
    clear hgk
    have hrw : Rd wr (some ⟨b, o, none⟩) (byteV l) := hr.below hbw
    have hbr : b < wr.heap.size := Nat.lt_of_lt_of_le hb hbw.size
    have HRW := Lib.hid hrw
    by_cases hlt : p < l.length
    · obtain ⟨c, hc⟩ : ∃ c, l[p]? = some c := ⟨_, List.getElem?_eq_getElem hlt⟩
      have hx := BS.at_ (n := 0) (cap := 0) hrw hc
      clear hrw
      by_cases h34 : c = 34
      · subst h34
        have hq0 : (qsS l p).2.2 ≠ 0 := by rw [qsS, hc]; simp only; rw [if_neg (by decide), if_pos (by decide)]; decide
        have hn := signsL_nil (l := l) (a := p) (fun _ => hq0)
        have hQ := qRead_at HA.out (by rw [HS.out.1, hn, List.append_nil]) HS.out.2
        rw [if_pos hc] at hQ
        have HQ := Lib.hid hQ
        have HSL := Lib.hid (show signsL l (a + 1) = pre by rw [HS.out.1, hn, List.append_nil])
        clear hq0 hn hQ hc hxa
        go_wp2
        go_ret3
        refine ⟨⟨_, by rw [HQ.out]; rfl, fun _ => ?_⟩, hbw⟩
        rw [HSL.out]
        simpa using hown
      · have hne : ((c.toNat : Int) == 34) = false := by
          have : c.toNat ≠ 34 := fun e => h34 (UInt8.toNat_inj.1 (by simpa using e))
          simp; omega
        have hB := rBegin2_any (.slice (some ⟨b, o + p, none⟩) (l.length - p) (cap - p)) (l.drop p) wr (BS.dropN (n := 0) HRW.out hcap p hp2) (by rw [List.length_drop]; omega)
        have hW := rWrong_any (.slice (some ⟨b, o, none⟩) l.length cap) l p
        rw [hc] at hW
        simp only at hW
        have hcapp : ¬ cap = p := by omega
        rcases b2_same hc with ⟨h0, hq, hn0⟩ | ⟨hn0, herr⟩
        · obtain ⟨⟨x, n⟩, hxn⟩ : ∃ r, rB2 (l.drop p) = r := ⟨_, rfl⟩
          rw [hxn] at hB hq hn0
          simp only at hq hn0
          have hqs := signsL_cons hq hlt
          obtain ⟨_, m', hm1, hm2, hm3, hm4, _⟩ := qs_ok hq hlt
          have hpn : p + n ≤ l.length := by omega
          have HQS := Lib.hid (show signsL l (a + 1) = (pre ++ [((x : Int), ((p + n : Nat) : Int))]) ++ signsL l (p + n) ∧ qEnd (a + 1) (pre ++ [((x : Int), ((p + n : Nat) : Int))]) = p + n from ⟨by rw [HS.out.1, hqs]; simp, by rw [qEnd_app, Int.toNat_natCast]⟩)
          have HB := Lib.hid hB
          have hn0' : ((n : Int) == 0) = false := by simp; omega
          clear hB hW hc h0 hq hqs hxn hm1 hm2 hm3 hm4 h34 hxa
          go_wp2_with fail
          refine HB.out.mono ?_
          rintro e w1 ⟨rfl, hb1⟩
          have hown1 := own_below hown hb1
          go_wp2_with (at_builtin; refine wpList_append_own _ rfl _ _ 99 rfl w.heap.size 3 i0 (.int .i64 0) 1 8 Tryd.underlying99 hi hz0 hz1 hz2 rfl (by decide) _ _ _ rfl (hown1.alloc _) ⟨w1.heap.size, 0, none⟩ 1 1 [.int .i64 x] rfl rfl (cell_one_new _ _ _) (by simp [Value.oneCell']) (by unfold maxLen; omega) (by omega) (by have := hbw.size; have := hb1.size; simp; omega) ?_; intro v' w2 hown2 hgr2 _)
          go_roundg (l.length + 1 - (p + n))
          case measure => rw [HG.out]; omega
          case rel =>
            have s1 := hbw.size
            have s2 := hb1.size
            refine ⟨p + n, pre ++ [((x : Int), ((p + n : Nat) : Int))], by omega, hpn, rfl, by go_num, ?_, ?_, HQS, by simp; omega⟩
            · rw [List.length_append, List.length_singleton]
              have e : intV ((pre ++ [((x : Int), ((p + n : Nat) : Int))]).map Prod.fst) = intV (pre.map Prod.fst) ++ [.int .i64 x] := by simp [intV]
              rw [e]; exact hown2
            · refine ((hbw.trans (hb1.mono s1)).alloc (by omega) _).grown hgr2 (by simp; omega) (fun k e => ?_)
              exact (hown1.lt k e).1
        · obtain ⟨⟨x, n⟩, hxn⟩ : ∃ r, rB2 (l.drop p) = r := ⟨_, rfl⟩
          rw [hxn] at hB hn0
          simp only at hn0
          subst hn0
          have hc0 : (if 128 ≤ c.toNat then (110 : Int) else 7) ≠ 0 := by split <;> decide
          have hn := signsL_nil (l := l) (a := p) (fun _ => by rw [herr]; exact hc0)
          have hQ := qRead_at HA.out (by rw [HS.out.1, hn, List.append_nil]) HS.out.2
          rw [if_neg (by rw [hc]; simpa using h34)] at hQ
          have hqs : qSign l ((p : Nat) : Int) = qsS l p := by unfold qSign; rw [if_neg (by omega), if_neg (by omega), Int.toNat_natCast]
          rw [hqs, herr] at hQ
          obtain ⟨er, her⟩ : ∃ er : Int, (if 128 ≤ c.toNat then (110 : Int) else 7) = er := ⟨_, rfl⟩
          rw [her] at hQ hc0
          rw [show (if 128 ≤ c.toNat then (110 : Int) else 7) = er from her] at hW
          have HQ := Lib.hid hQ
          have HW := Lib.hid hW
          have HB := Lib.hid hB
          have HC0 := Lib.hid hc0
          have HV := Lib.hid (fun wx (h : Below w.heap.size w wx) => HBS.out.below h)
          clear hB hW hc hn hQ hqs her hc0 herr hxn h34 hxa
          go_wp2_with fail
          refine HB.out.mono ?_
          rintro e w1 ⟨rfl, hb1⟩
          have HB1 := Lib.hid (hbw.trans (hb1.mono hbw.size))
          go_wp2_with fail
          refine (HW.out w1 (HV.out w1 HB1.out) hl hp2).mono ?_
          rintro e w2 ⟨rfl, rfl⟩
          go_wp2
          go_ret3
          exact ⟨⟨_, by rw [HQ.out]; rfl, fun h => by rw [HQ.out] at h; exact absurd h HC0.out⟩, HB1.out⟩
    · obtain rfl : p = l.length := by omega
      have hn := signsL_nil (l := l) (a := l.length) (fun h => absurd h hlt)
      have hQ := qRead_at HA.out (by rw [HS.out.1, hn, List.append_nil]) HS.out.2
      rw [if_neg (by simp)] at hQ
      have hqs : qSign l ((l.length : Nat) : Int) = (0, 0, 6) := by unfold qSign; rw [if_neg (by omega), if_pos rfl]
      rw [hqs] at hQ
      have HQ := Lib.hid hQ
      have hW := rWrong_any (.slice (some ⟨b, o, none⟩) l.length cap) l l.length
      rw [List.getElem?_eq_none (Nat.le_refl _)] at hW
      simp only at hW
      have hbs : BS wr (.slice (if cap = l.length then some ⟨b, o, none⟩ else some ⟨b, o + l.length, none⟩) (l.length - l.length) (cap - l.length)) (l.drop l.length) := by
        rw [List.drop_eq_nil_of_le (Nat.le_refl _)]
        exact ⟨_, _, by rw [Nat.sub_self]; rfl, by simp, Rd.nil⟩
      have hB := rBegin2_any _ (l.drop l.length) wr hbs (by simp)
      have hr0 : rB2 (l.drop l.length) = (0, 0) := by rw [List.drop_eq_nil_of_le (Nat.le_refl _)]; decide
      rw [hr0, Nat.sub_self] at hB
      have HW := Lib.hid hW
      have HB := Lib.hid hB
      have HV := Lib.hid (fun wx (h : Below w.heap.size w wx) => HBS.out.below h)
      clear hB hW hn hQ hqs hr0 hrw hxa hbs
      by_cases hc6 : cap = l.length
      · rw [if_pos hc6, show cap - l.length = 0 from by omega] at HB
        rw [hc6] at HW HBS
        have HV2 := Lib.hid (fun wx (h : Below w.heap.size w wx) => HBS.out.below h)
        go_wp2_with fail
        refine HB.out.mono ?_
        rintro e w1 ⟨rfl, hb1⟩
        have HB1 := Lib.hid (hbw.trans (hb1.mono hbw.size))
        go_wp2_with fail
        refine (HW.out w1 (HV2.out w1 HB1.out) hl (Nat.le_refl _)).mono ?_
        rintro e w2 ⟨rfl, rfl⟩
        go_wp2
        go_ret3
        exact ⟨⟨_, by rw [HQ.out]; rfl, fun h => by rw [HQ.out] at h; cases h⟩, HB1.out⟩
      · rw [if_neg hc6] at HB
        go_wp2_with fail
        refine HB.out.mono ?_
        rintro e w1 ⟨rfl, hb1⟩
        have HB1 := Lib.hid (hbw.trans (hb1.mono hbw.size))
        go_wp2_with fail
        refine (HW.out w1 (HV.out w1 HB1.out) hl (Nat.le_refl _)).mono ?_
        rintro e w2 ⟨rfl, rfl⟩
        go_wp2
        go_ret3
        exact ⟨⟨_, by rw [HQ.out]; rfl, fun h => by rw [HQ.out] at h; cases h⟩, HB1.out⟩

/-- the text of code points -/
def textB (xs : List (Int × Int)) : List UInt8 := qBytes xs
theorem intV_get {xs : List Int} {i : Nat} {x : Int} (h : xs[i]? = some x) : (intV xs)[i]? = some (.int .i64 x) := by unfold intV; rw [List.getElem?_map, h]; rfl
set_option maxRecDepth 100000 in
set_option maxHeartbeats 4000000 in
theorem rText_any (v : Value) (cs : List Nat) (w : World) (hv : IS w v (cs.map fun n : Nat => (n : Int))) (hl : cs.length ≤ 4194304) (hcp : ∀ c ∈ cs, isCp (c : Int) = true) :
    Calls Tryd.prog 65 #[v] w fun e w' => e = .returned (.tuple #[.string ⟨(cs.flatMap cpBytes).toArray⟩, .bool true]) ∧ Below w.heap.size w w' := by
  obtain ⟨i0, hi, hz0, hz1, hz2⟩ := info_parts infoByte
  obtain ⟨A, cap, rfl, hcap, hr⟩ := hv
  rw [List.length_map] at hcap ⊢
  obtain ⟨n, hn⟩ : ∃ n, cs.length = n := ⟨_, rfl⟩
  rw [hn] at hl hcap ⊢
  have HN := Lib.hid hn
  have HC := Lib.hid hcp
  clear hn hcp
  go_enter Tryd.func65, Tryd.ntmps65
  go_wp2
  go_loopg [4, 5] n (fun gk s4 s5 wr => ∃ k : Nat, k ≤ n ∧ gk = n - k ∧ s5 = .int .i64 k ∧ wr.ownsRow w.heap.size 5 1 s4 ((cs.take k).flatMap cpBytes).length (byteV ((cs.take k).flatMap cpBytes)) ∧ Below w.heap.size w wr ∧ ((cs.take k).flatMap cpBytes).length ≤ 4 * k)
  case atStart => exact ⟨0, Nat.zero_le _, rfl, rfl, World.ownsRow_nil _ _ _ _, Below.refl _ _, by simp⟩
  case round =>
    obtain ⟨k, hk, hgk, rfl, hown, hbw, hlen4⟩ := hrel
    have HG := Lib.hid hgk
    clear hgk
    by_cases hlt : k < n
    · obtain ⟨c, hc⟩ : ∃ c, cs[k]? = some c := ⟨_, List.getElem?_eq_getElem (by rw [HN.out]; exact hlt)⟩
      have hcc := HC.out c (List.mem_of_getElem? hc)
      have hrange : (c : Int) ≤ 1114111 := by have := hcc; unfold isCp at this; have := of_decide_eq_true this; omega
      obtain ⟨b, o, e, hb, hxs⟩ := hr (by intro e; have : cs.length = 0 := by simpa [intV] using congrArg List.length e
                                          rw [HN.out] at this; omega)
      subst e
      have hx : wr.cell? ⟨b, o + k, none⟩ = some (.int .i64 c) := by
        have h1 : (intV (cs.map fun n : Nat => (n : Int)))[k]? = some (.int .i64 c) := intV_get (by rw [List.getElem?_map, hc]; rfl)
        obtain ⟨h2, h3⟩ := List.getElem?_eq_some_iff.1 h1
        exact (hbw.cell (p := ⟨b, o + k, none⟩) hb).trans (by rw [hxs k h2, h3])
      have HI := Lib.hid (show ∀ w, Calls Tryd.prog 88 #[.int .i64 c] w fun e w' => e = .returned (.bool true) ∧ w = w' from fun w => by have := rIs_any c w; rw [hcc] at this; exact this)
      have hB := rBytes_any (c : Int) wr (by omega) hrange
      rw [Int.toNat_natCast] at hB
      have hcl : (cpBytes c).length ≤ 4 := by unfold cpBytes; (repeat' split) <;> simp
      have htk : (cs.take (k + 1)).flatMap cpBytes = (cs.take k).flatMap cpBytes ++ cpBytes c := by rw [List.take_add_one, hc]; simp
      obtain ⟨u, hu⟩ : ∃ u, cpBytes c = u := ⟨_, rfl⟩
      rw [hu] at hB hcl htk
      have HTK := Lib.hid htk
      have HB := Lib.hid hB
      obtain ⟨pre, hpre⟩ : ∃ pre, (cs.take k).flatMap cpBytes = pre := ⟨_, rfl⟩
      rw [hpre] at hown hlen4
      have HPRE := Lib.hid hpre
      clear hB hcc hrange hc htk hu hpre hxs
      go_wp2_with fail
      refine (HI.out _).mono ?_
      rintro e w1 ⟨rfl, rfl⟩
      go_wp2_with fail
      refine HB.out.mono ?_
      rintro e w2 ⟨v2, rfl, hv2, hb2⟩
      obtain ⟨A2, c2, rfl, hc2, hr2⟩ := hv2
      have hown2 := own_below hown hb2
      go_wp2_with (at_builtin; refine wpList_append_rd _ rfl _ _ 22 rfl w.heap.size 5 i0 (.int .u8 0) 1 1 Tryd.underlying22 hi hz0 hz1 hz2 rfl (by decide) _ _ _ rfl hown2 A2 u.length c2 (rd_len hr2) (byteV u) rfl (by rw [byteV_len]; omega) hr2 (byteV_one u) (by unfold maxLen; omega) (by omega) (by have := hbw.size; have := hb2.size; omega) ?_; intro v' w3 hown3 hgr3 _)
      go_roundg (n - (k + 1))
      case measure => rw [HG.out]; omega
      case rel =>
        have s1 := hbw.size
        have s2 := hb2.size
        refine ⟨k + 1, hlt, rfl, by go_num, ?_, ?_, by rw [HTK.out, HPRE.out, List.length_append]; omega⟩
        · rw [HTK.out, HPRE.out, byteV_app, List.length_append]; exact hown3
        · exact (hbw.trans (hb2.mono s1)).grown hgr3 (by omega) (fun k e => (hown2.lt k e).1)
    · obtain rfl : k = n := by omega
      have hbs := BS.of_own hown
      have hconv := hbs.conv
      have htk : cs.take k = cs := List.take_of_length_le (by rw [HN.out]; exact Nat.le_refl _)
      rw [htk] at hconv hown
      have HCV := Lib.hid htk
      clear htk hbs hlen4
      go_wp2
      go_ret2
      exact ⟨rfl, hbw⟩
end Go.Proofs.YtoejdhabpajhlaaDoor
