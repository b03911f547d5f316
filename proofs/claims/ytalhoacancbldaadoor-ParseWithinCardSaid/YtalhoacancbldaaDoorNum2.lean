import Derived.Test.YtalhoacancbldaaDoorNum
import Derived.StillTailTactics
import Derived.Deep.LoopGhost
/- The walks of package numeral: a row of digits. -/
namespace Go.Proofs.YtalhoacancbldaaDoor
set_option linter.unusedVariables false
set_option linter.unusedSimpArgs false
open Go.RowKit
attribute [local go_sem] run_index_arr run_part_agg run_part_one run_field_agg

/-- the size grows by a digit -/
def growS (d : Nat) (s : NSt) : NSt := { s with over := s.over || decide ((18446744073709551615 - d) / 10 < s.size), size := (10 * s.size + d) % 18446744073709551616 }
def growAll (ds : List UInt8) (s : NSt) : NSt := ds.foldl (fun s c => growS (dval c) s) s

theorem NStep.refl {w : World} {g : Nat} {A : Option Addr} {cap : Nat} {l : List UInt8} {s : NSt} (h : NB w g A cap l s) : NStep w g A cap l s w := ⟨h, gb_refl _ _⟩
theorem NStep.trans {a b c : World} {g : Nat} {A : Option Addr} {cap : Nat} {l : List UInt8} {s t : NSt} (h : NStep a g A cap l s b) (k : NStep b g A cap l t c) : NStep a g A cap l t c := ⟨k.1, gb_trans h.2 k.2⟩
theorem NB.set_ {w : World} {g : Nat} {A : Option Addr} {cap : Nat} {l : List UInt8} {s t : NSt} (h : NB w g A cap l s) (i : Nat) (u : Value) (e : (numCells A l.length cap s).setIfInBounds i u = numCells A l.length cap t) :
    NB (w.setCell ⟨g, i, none⟩ u) g A cap l t := ⟨by rw [← e]; exact h.1.set_ i u, h.2.setCell h.ne _ _⟩
theorem NStep.set_ {a w : World} {g : Nat} {A : Option Addr} {cap : Nat} {l : List UInt8} {s t : NSt} (h : NStep a g A cap l s w) (i : Nat) (u : Value) (e : (numCells A l.length cap s).setIfInBounds i u = numCells A l.length cap t) :
    NStep a g A cap l t (w.setCell ⟨g, i, none⟩ u) := ⟨h.1.set_ i u e, gb_setCell h.2 _ _⟩
theorem NStep.drewN {a w : World} {g : Nat} {A : Option Addr} {cap : Nat} {l : List UInt8} {s : NSt} (h : NStep a g A cap l s w) (k : Nat) : NStep a g A cap l s (w.drewN k) := ⟨h.1.drewN k, gb_drewN h.2 k⟩

set_option maxRecDepth 100000 in
set_option maxHeartbeats 1000000 in
theorem grows_any (w : World) (g : Nat) (A : Option Addr) (cap : Nat) (l : List UInt8) (st : NSt) (d : Nat) (hN : NB w g A cap l st) (hd : d ≤ 9) (hsz : st.size < 18446744073709551616) :
    Calls Tryd.prog 154 #[.pointer (some ⟨g, 0, none⟩), .int .u64 d] w fun e w' => e = .returned (.tuple #[]) ∧ NStep w g A cap l (growS d st) w' := by
  obtain ⟨hc, hf, hlt⟩ := hN.1.rules
  have HN := Lib.hid hN
  clear hN
  unfold numCells at hc
  have e1 : (18446744073709551615 - (d : Int)) / 10 = (((18446744073709551615 - d) / 10 : Nat) : Int) := by omega
  have HE := Lib.hid e1
  clear e1
  have hw : IntKind.u64.wrap (IntKind.u64.wrap (10 * (st.size : Int)) + (d : Int)) = (((10 * st.size + d) % 18446744073709551616 : Nat) : Int) := by
    simp only [IntKind.wrap_u64]; omega
  have HW := Lib.hid hw
  clear hw
  by_cases h : (18446744073709551615 - d) / 10 < st.size
  · have h' : (18446744073709551615 - (d : Int)) / 10 < (st.size : Int) := by rw [HE.out]; omega
    go_enter Tryd.func154, Tryd.ntmps154
    go_wp2
    go_end0
    refine ⟨rfl, ?_⟩
    have h1 := ((NStep.refl HN.out).set_ (t := { st with over := true }) 4 (.bool true) (by simp [numCells])).set_ (t := growS d st) 3 (.int .u64 (((10 * st.size + d) % 18446744073709551616 : Nat) : Int)) (by simp [numCells, growS, h])
    rw [HW.out]
    exact h1
  · have h' : (st.size : Int) ≤ (18446744073709551615 - (d : Int)) / 10 := by rw [HE.out]; omega
    go_enter Tryd.func154, Tryd.ntmps154
    go_wp2
    go_end0
    refine ⟨rfl, ?_⟩
    have h1 := (NStep.refl HN.out).set_ (t := growS d st) 3 (.int .u64 (((10 * st.size + d) % 18446744073709551616 : Nat) : Int)) (by simp [numCells, growS, h])
    rw [show (((10 * st.size + d) % 18446744073709551616 : Nat) : Int) = 10 * (st.size : Int) + (d : Int) from by omega] at h1
    exact h1

theorem nothing_any (v : Value) (w : World) : Calls Tryd.prog 155 #[v] w fun e w' => e = .returned (.tuple #[]) ∧ w = w' := by
  go_enter Tryd.func155, Tryd.ntmps155
  go_wp2
  go_end0
  exact ⟨rfl, rfl⟩

/-- what is done with each digit: the size grows, or nothing -/
def toVal (gr : Bool) (g : Nat) : Value := if gr then .func (.func 154) #[.pointer (some ⟨g, 0, none⟩)] #[] else .func (.func 155) #[] #[]
def digS (gr : Bool) (ds : List UInt8) (s : NSt) : NSt := if gr then { growAll ds s with pos := s.pos + ds.length } else { s with pos := s.pos + ds.length }
theorem growAll_keep (ds : List UInt8) : ∀ s : NSt, (growAll ds s).pos = s.pos ∧ (growAll ds s).minus = s.minus ∧ (growAll ds s).part = s.part := by
  induction ds with
  | nil => intro s; exact ⟨rfl, rfl, rfl⟩
  | cons c ds ih => intro s; have := ih (growS (dval c) s); exact this
theorem growAll_snoc (ds : List UInt8) (c : UInt8) (s : NSt) : growAll (ds ++ [c]) s = growS (dval c) (growAll ds s) := by simp [growAll]
theorem growS_size (d : Nat) (s : NSt) : (growS d s).size < 18446744073709551616 := Nat.mod_lt _ (by decide)
theorem growAll_size (ds : List UInt8) : ∀ s : NSt, s.size < 18446744073709551616 → (growAll ds s).size < 18446744073709551616 := by
  induction ds with
  | nil => intro s h; exact h
  | cons c ds ih => intro s _; exact ih _ (growS_size _ _)

/-- how a row of digits is left -/
def SomePost (gr : Bool) (g : Nat) (A : Option Addr) (cap : Nat) (l : List UInt8) (st : NSt) (w : World) (e : Ending) (w' : World) : Prop :=
  if digs l st.pos = [] then e = .panicked [{ v := .iface 165 (.int .i64 st.pos), recovered := false }] ∧ NStep w g A cap l st w'
  else e = .returned (.tuple #[]) ∧ NStep w g A cap l (digS gr (digs l st.pos) st) w'

theorem growTo (gr : Bool) (ds : List UInt8) (c : UInt8) (s : NSt) :
    digS gr (ds ++ [c]) s = if gr then growS (dval c) { digS gr ds s with pos := s.pos + ds.length + 1 } else { digS gr ds s with pos := s.pos + ds.length + 1 } := by
  cases gr
  · simp [digS, Nat.add_assoc]
  · have h1 := (growAll_keep ds s).1
    simp only [digS, growAll_snoc, growS, List.length_append, List.length_singleton, Nat.add_assoc]
    rfl

set_option maxRecDepth 100000 in
set_option maxHeartbeats 2000000 in
theorem some_any (gr : Bool) (w : World) (g : Nat) (A : Option Addr) (cap : Nat) (l : List UInt8) (st : NSt) (hN : NB w g A cap l st) (hl : l.length ≤ 1048576) (hp : st.pos ≤ 1048578) (hsz : st.size < 18446744073709551616) :
    Calls Tryd.prog 153 #[.pointer (some ⟨g, 0, none⟩), toVal gr g] w (SomePost gr g A cap l st w) := by
  have hsees := sees_any w g A cap l st ⟨#[48, 49, 50, 51, 52, 53, 54, 55, 56, 57]⟩ hN (by decide) hl (by omega)
  obtain ⟨hc, hf, hlt⟩ := hN.1.rules
  have HN := Lib.hid hN
  clear hN
  unfold numCells at hc
  obtain ⟨b, hb⟩ : ∃ b, seesB l st.pos [48, 49, 50, 51, 52, 53, 54, 55, 56, 57] = b := ⟨_, rfl⟩
  rw [show sl ⟨#[48, 49, 50, 51, 52, 53, 54, 55, 56, 57]⟩ = [48, 49, 50, 51, 52, 53, 54, 55, 56, 57] from rfl, hb] at hsees
  have HSE := Lib.hid hsees
  clear hsees
  cases b
  · have HB := Lib.hid (digs_nil hb)
    clear hb
    go_enter Tryd.func153, Tryd.ntmps153
    go_step3
    go_wp2_with (go_at_call 159; refine HSE.out.mono ?_; rintro e w' ⟨rfl, k, rfl⟩)
    refine ⟨rfl, ?_⟩
    rw [SomePost, if_pos HB.out]
    exact ⟨rfl, (NStep.refl HN.out).drewN k⟩
  · obtain ⟨c0, hc0, _, _, hds⟩ := digs_cons hb
    have HB := Lib.hid (show digs l st.pos ≠ [] by rw [hds]; simp)
    clear hb hds hc0
    go_enter Tryd.func153, Tryd.ntmps153
    go_step3
    go_wp2_with (go_at_call 159; refine HSE.out.mono ?_; rintro e w' ⟨rfl, k, rfl⟩)
    go_step3
    go_wp2
    go_loopg [] (digs l st.pos).length (fun k wr => ∃ ds : List UInt8, ds ++ digs l (st.pos + ds.length) = digs l st.pos ∧ (digs l (st.pos + ds.length)).length = k ∧ NStep w g A cap l (digS gr ds st) wr)
    case atStart => exact ⟨[], by simp, by simp, by have := (NStep.refl HN.out).drewN k; cases gr <;> simpa [digS, growAll] using this⟩
    case round =>
      obtain ⟨ds, hds, hk, hst⟩ := hrel
      clear hc hf hlt
      have hpos : (digS gr ds st).pos = st.pos + ds.length := by cases gr <;> rfl
      have hle := digs_le l (st.pos + ds.length)
      have hdl : st.pos + ds.length ≤ 1048578 := by
        have h1 := congrArg List.length hds
        have h2 := digs_le l st.pos
        simp at h1; omega
      have htk := takes_any wr g A cap l (digS gr ds st) ⟨#[48, 49, 50, 51, 52, 53, 54, 55, 56, 57]⟩ hst.1 (by decide) hl (by rw [hpos]; omega)
      obtain ⟨b, hb⟩ : ∃ b, seesB l (digS gr ds st).pos [48, 49, 50, 51, 52, 53, 54, 55, 56, 57] = b := ⟨_, rfl⟩
      rw [show sl ⟨#[48, 49, 50, 51, 52, 53, 54, 55, 56, 57]⟩ = [48, 49, 50, 51, 52, 53, 54, 55, 56, 57] from rfl, hb] at htk
      have HT := Lib.hid htk
      have HS := Lib.hid hst
      have HD := Lib.hid hds
      have HP := Lib.hid hpos
      clear htk hst hds hle
      rw [hpos] at hb
      clear hpos
      cases b
      · have hnil := digs_nil hb
        have HNL := Lib.hid hnil
        clear hb hnil hk
        go_wp2_with (go_at_call 152; refine HT.out.mono ?_; rintro e w1 ⟨rfl, hw1⟩)
        go_end0
        rw [SomePost, if_neg HB.out]
        have hd := HD.out
        rw [HNL.out, List.append_nil] at hd
        rw [← hd]
        exact ⟨rfl, HS.out.trans hw1⟩
      · obtain ⟨c, hcl, hc1, hc2, hcd⟩ := digs_cons hb
        obtain ⟨bb, oo, rfl, hbb, hx⟩ := HS.out.1.2 (by intro e; have h3 := byteV_len l; rw [e, List.length_nil] at h3; have := (List.getElem?_eq_some_iff.1 hcl).1; omega)
        have hxc := hx (st.pos + ds.length) (by rw [byteV_len]; exact (List.getElem?_eq_some_iff.1 hcl).1)
        have hlt := (List.getElem?_eq_some_iff.1 hcl).1
        have HC := Lib.hid hcd
        have HCL := Lib.hid hcl
        have HX := Lib.hid hx
        have HK := Lib.hid hk
        clear hb hcd hcl hx hxc hk
        go_wp2_with (go_at_call 152; refine HT.out.mono ?_; rintro e w1 ⟨rfl, hw1⟩; obtain ⟨hr1, hr2, hr3⟩ := hw1.1.1.rules)
        have hxw : w1.cell? ⟨bb, oo + (st.pos + ds.length), none⟩ = some (.int .u8 c.toNat) := by
          obtain ⟨b', o', e', _, hx'⟩ := hw1.1.2 (by intro e; have h3 := byteV_len l; rw [e, List.length_nil] at h3; omega)
          obtain ⟨rfl, rfl⟩ : bb = b' ∧ oo = o' := by simpa using e'
          rw [hx' (st.pos + ds.length) (by rw [byteV_len]; exact hlt)]
          have hg := (List.getElem?_eq_some_iff.1 HCL.out)
          simp [byteV, hg.2]
        obtain ⟨q, hq⟩ : ∃ q, st.pos + ds.length = q := ⟨_, rfl⟩
        have h0 : w1.cell? ⟨g, 0, none⟩ = some (.int .i64 ((q : Int) + 1)) := by rw [hr1 0]; simp [numCells, HP.out, hq]
        have h1 : w1.cell? ⟨g, 1, none⟩ = some (.slice (some ⟨bb, oo, none⟩) l.length cap) := by rw [hr1 1]; simp [numCells]
        rw [hq] at hxw hlt hdl
        have hwq : IntKind.i64.wrap (q : Int) = (q : Int) := by rw [IntKind.wrap_i64]; omega
        have hqn : ((q : Int)).toNat = q := Int.toNat_natCast q
        have hq0 : 0 ≤ (q : Int) := by omega
        have hql : (q : Int) < (l.length : Int) := by omega
        have hdv : IntKind.u8.wrap ((c.toNat : Int) - 48) = ((dval c : Nat) : Int) := by rw [IntKind.wrap_u8]; unfold dval; omega
        have hdw : IntKind.u64.wrap ((dval c : Nat) : Int) = ((dval c : Nat) : Int) := by rw [IntKind.wrap_u64]; unfold dval; omega
        have hd9 : dval c ≤ 9 := by unfold dval; omega
        have HQ := Lib.hid hq
        clear hr1 hr2 hr3 hq
        have HW := Lib.hid hw1
        clear hw1
        have hw := HW.out
        rw [if_pos trivial] at hw
        have hsz2 : (digS gr ds st).size < 18446744073709551616 := by
          cases gr
          · exact hsz
          · exact growAll_size ds st hsz
        have HW2 := Lib.hid hw
        clear hw HW
        have fin : ds ++ [c] ++ digs l (st.pos + (ds ++ [c]).length) = digs l st.pos ∧ (digs l (st.pos + (ds ++ [c]).length)).length = (digs l (q + 1)).length := by
          have h1 := HD.out
          have h2 := HC.out
          have h3 := HQ.out
          have e : st.pos + (ds ++ [c]).length = q + 1 := by simp; omega
          rw [h3] at h1 h2
          rw [h2] at h1
          rw [e]
          exact ⟨by rw [List.append_assoc]; exact h1, rfl⟩
        have hm : (digs l (q + 1)).length < gk := by
          have h1 := HK.out
          have h2 := HC.out
          rw [HQ.out] at h1 h2
          rw [h2] at h1
          simp at h1; omega
        have FIN := Lib.hid fin
        have HM := Lib.hid hm
        clear fin hm
        cases gr
        · rw [show toVal false g = .func (.func 155) #[] #[] from rfl]
          go_still_tail 15, (by kernel_rfl)
          go_wp2_with (go_at_call 155; refine (nothing_any _ _).mono ?_; rintro e w2 ⟨rfl, rfl⟩)
          go_roundg ((digs l (q + 1)).length)
          case measure => exact HM.out
          case rel => exact ⟨ds ++ [c], FIN.out.1, FIN.out.2, by rw [growTo]; exact HS.out.trans (HW2.out.drewN 1)⟩
        · rw [show toVal true g = .func (.func 154) #[.pointer (some ⟨g, 0, none⟩)] #[] from rfl]
          go_still_tail 15, (by kernel_rfl)
          go_wp2_with (go_at_call 154; refine (grows_any _ g _ cap l _ (dval c) (HW2.out.1.drewN 1) hd9 hsz2).mono ?_; rintro e w2 ⟨rfl, hw2⟩)
          go_roundg ((digs l (q + 1)).length)
          case measure => exact HM.out
          case rel => exact ⟨ds ++ [c], FIN.out.1, FIN.out.2, by rw [growTo]; exact (HS.out.trans (HW2.out.drewN 1)).trans hw2⟩
end Go.Proofs.YtalhoacancbldaaDoor

/- The walks of package numeral: the four steps. -/
namespace Go.Proofs.YtalhoacancbldaaDoor
set_option linter.unusedVariables false
set_option linter.unusedSimpArgs false
open Go.RowKit
attribute [local go_sem] run_index_arr run_part_agg run_part_one run_field_agg

/-- a step of the reader: the state behind it, and the place at which it has ended the numeral -/
def takeS (s : List UInt8) (l : List UInt8) (st : NSt) : NSt := if seesB l st.pos s then { st with pos := st.pos + 1 } else st
def rowS (gr : Bool) (l : List UInt8) (st : NSt) : NSt × Option Nat := if digs l st.pos = [] then (st, some st.pos) else (digS gr (digs l st.pos) st, none)
def signS (l : List UInt8) (st : NSt) : NSt × Option Nat := ({ takeS [45] l st with minus := seesB l st.pos [45] }, none)
def wholeS (l : List UInt8) (st : NSt) : NSt × Option Nat := if seesB l st.pos [48] then ({ st with pos := st.pos + 1 }, none) else rowS true l st
def fracS (l : List UInt8) (st : NSt) : NSt × Option Nat := if seesB l st.pos [46] then rowS false l { st with pos := st.pos + 1, part := true } else (st, none)
def expS (l : List UInt8) (st : NSt) : NSt × Option Nat := if seesB l st.pos [101, 69] then rowS false l (takeS [43, 45] l { st with pos := st.pos + 1, part := true }) else (st, none)

def StepPost (o : NSt × Option Nat) (g : Nat) (A : Option Addr) (cap : Nat) (l : List UInt8) (w : World) (e : Ending) (w' : World) : Prop :=
  (e = match o.2 with | none => .returned (.tuple #[]) | some p => .panicked [{ v := .iface 165 (.int .i64 p), recovered := false }]) ∧ NStep w g A cap l o.1 w'

theorem row_any (gr : Bool) (w : World) (g : Nat) (A : Option Addr) (cap : Nat) (l : List UInt8) (st : NSt) (hN : NB w g A cap l st) (hl : l.length ≤ 1048576) (hp : st.pos ≤ l.length) (hsz : st.size < 18446744073709551616) :
    Calls Tryd.prog 153 #[.pointer (some ⟨g, 0, none⟩), toVal gr g] w (StepPost (rowS gr l st) g A cap l w) :=
  (some_any gr w g A cap l st hN hl (by omega) hsz).mono fun e w' h => by
    unfold SomePost at h; unfold StepPost rowS
    by_cases hd : digs l st.pos = []
    · rw [if_pos hd] at h ⊢; exact h
    · rw [if_neg hd] at h ⊢; exact h

theorem sees_lt {l s : List UInt8} {p : Nat} (h : seesB l p s = true) : p < l.length := by
  unfold seesB at h
  cases hl : l[p]? with
  | none => rw [hl] at h; cases h
  | some c => exact (List.getElem?_eq_some_iff.1 hl).1
theorem rowS_le {gr : Bool} {l : List UInt8} {st : NSt} (hp : st.pos ≤ l.length) : (rowS gr l st).1.pos ≤ l.length := by
  unfold rowS
  have h := digs_le l st.pos
  split
  · exact hp
  · cases gr <;> (show st.pos + _ ≤ _; omega)
theorem takeS_le {s l : List UInt8} {st : NSt} (hp : st.pos ≤ l.length) : (takeS s l st).pos ≤ l.length := by
  unfold takeS
  split
  · rename_i h; exact sees_lt h
  · exact hp
theorem rowS_size {gr : Bool} {l : List UInt8} {st : NSt} (h : st.size < 18446744073709551616) : (rowS gr l st).1.size < 18446744073709551616 := by
  unfold rowS
  split
  · exact h
  · cases gr
    · exact h
    · exact growAll_size _ _ h
theorem takeS_size {s l : List UInt8} {st : NSt} : (takeS s l st).size = st.size := by unfold takeS; split <;> rfl

theorem take_any (w : World) (g : Nat) (A : Option Addr) (cap : Nat) (l : List UInt8) (st : NSt) (s : ByteArray) (hN : NB w g A cap l st) (hs : s.size ≤ 1048576) (hl : l.length ≤ 1048576) (hp : st.pos ≤ l.length) :
    Calls Tryd.prog 152 #[.pointer (some ⟨g, 0, none⟩), .string s] w fun e w' => e = .returned (.bool (seesB l st.pos (sl s))) ∧ NStep w g A cap l (takeS (sl s) l st) w' :=
  takes_any w g A cap l st s hN hs hl (by omega)

set_option maxRecDepth 100000 in
set_option maxHeartbeats 1000000 in
theorem sign_any (w : World) (g : Nat) (A : Option Addr) (cap : Nat) (l : List UInt8) (st : NSt) (hN : NB w g A cap l st) (hl : l.length ≤ 1048576) (hp : st.pos ≤ l.length) :
    Calls Tryd.prog 142 #[.pointer (some ⟨g, 0, none⟩)] w (StepPost (signS l st) g A cap l w) := by
  have ht := take_any w g A cap l st ⟨#[45]⟩ hN (by decide) hl hp
  rw [show sl ⟨#[45]⟩ = [45] from rfl] at ht
  obtain ⟨b, hb⟩ : ∃ b, seesB l st.pos [45] = b := ⟨_, rfl⟩
  rw [hb] at ht
  have HT := Lib.hid ht
  have HB := Lib.hid hb
  clear ht hN hb
  go_enter Tryd.func142, Tryd.ntmps142
  go_wp2_with (go_at_call 152; refine HT.out.mono ?_; rintro e w1 ⟨rfl, hw1⟩; have hf := hw1.1.1.frozen 2; obtain ⟨hc2, _, _⟩ := hw1.1.1.rules)
  go_end0
  refine ⟨rfl, ?_⟩
  unfold signS
  rw [HB.out]
  exact hw1.set_ 2 (.bool b) (by simp [numCells])

theorem row_none {gr : Bool} {w : World} {g : Nat} {A : Option Addr} {cap : Nat} {l : List UInt8} {st st' : NSt} (h : rowS gr l st = (st', none)) (hN : NB w g A cap l st) (hl : l.length ≤ 1048576) (hp : st.pos ≤ l.length) (hsz : st.size < 18446744073709551616) :
    Calls Tryd.prog 153 #[.pointer (some ⟨g, 0, none⟩), toVal gr g] w fun e w' => e = .returned (.tuple #[]) ∧ NStep w g A cap l st' w' := by
  have := row_any gr w g A cap l st hN hl hp hsz
  rw [h] at this
  exact this
theorem row_some {gr : Bool} {w : World} {g : Nat} {A : Option Addr} {cap : Nat} {l : List UInt8} {st st' : NSt} {p : Nat} (h : rowS gr l st = (st', some p)) (hN : NB w g A cap l st) (hl : l.length ≤ 1048576) (hp : st.pos ≤ l.length) (hsz : st.size < 18446744073709551616) :
    Calls Tryd.prog 153 #[.pointer (some ⟨g, 0, none⟩), toVal gr g] w fun e w' => e = .panicked [{ v := .iface 165 (.int .i64 p), recovered := false }] ∧ NStep w g A cap l st' w' := by
  have := row_any gr w g A cap l st hN hl hp hsz
  rw [h] at this
  exact this

set_option maxRecDepth 100000 in
set_option maxHeartbeats 1000000 in
theorem whole_any (w : World) (g : Nat) (A : Option Addr) (cap : Nat) (l : List UInt8) (st : NSt) (hN : NB w g A cap l st) (hl : l.length ≤ 1048576) (hp : st.pos ≤ l.length) (hsz : st.size < 18446744073709551616) :
    Calls Tryd.prog 143 #[.pointer (some ⟨g, 0, none⟩)] w (StepPost (wholeS l st) g A cap l w) := by
  have ht := take_any w g A cap l st ⟨#[48]⟩ hN (by decide) hl hp
  rw [show sl ⟨#[48]⟩ = [48] from rfl] at ht
  obtain ⟨b, hb⟩ : ∃ b, seesB l st.pos [48] = b := ⟨_, rfl⟩
  rw [hb] at ht
  have HT := Lib.hid ht
  have HB := Lib.hid hb
  clear ht hN hb
  unfold wholeS
  rw [HB.out]
  cases b
  · have hts : takeS [48] l st = st := by unfold takeS; rw [HB.out]; rfl
    obtain ⟨⟨st', q⟩, hr⟩ : ∃ r, rowS true l st = r := ⟨_, rfl⟩
    rw [if_neg (by decide), hr]
    cases q with
    | none =>
      have HR := Lib.hid (fun w => @row_none true w g A cap l st st' hr)
      clear hr
      go_enter Tryd.func143, Tryd.ntmps143
      go_wp2_with (first | (go_at_call 152; refine HT.out.mono ?_; rintro e w1 ⟨rfl, hw1⟩) | (go_at_call 153; refine (HR.out _ (hts ▸ hw1.1) hl hp hsz).mono ?_; rintro e w2 ⟨rfl, hw2⟩))
      go_end0
      exact ⟨rfl, (hts ▸ hw1).trans hw2⟩
    | some p =>
      have HR := Lib.hid (fun w => @row_some true w g A cap l st st' p hr)
      clear hr
      go_enter Tryd.func143, Tryd.ntmps143
      go_wp2_with (first | (go_at_call 152; refine HT.out.mono ?_; rintro e w1 ⟨rfl, hw1⟩) | (go_at_call 153; refine (HR.out _ (hts ▸ hw1.1) hl hp hsz).mono ?_; rintro e w2 ⟨rfl, hw2⟩))
      exact ⟨rfl, rfl, (hts ▸ hw1).trans hw2⟩
  · go_enter Tryd.func143, Tryd.ntmps143
    go_wp2_with (go_at_call 152; refine HT.out.mono ?_; rintro e w1 ⟨rfl, hw1⟩)
    go_end0
    refine ⟨rfl, ?_⟩
    have : takeS [48] l st = { st with pos := st.pos + 1 } := by unfold takeS; rw [HB.out]; rfl
    rw [this] at hw1
    exact hw1

set_option maxRecDepth 100000 in
set_option maxHeartbeats 1000000 in
theorem fraction_any (w : World) (g : Nat) (A : Option Addr) (cap : Nat) (l : List UInt8) (st : NSt) (hN : NB w g A cap l st) (hl : l.length ≤ 1048576) (hp : st.pos ≤ l.length) (hsz : st.size < 18446744073709551616) :
    Calls Tryd.prog 144 #[.pointer (some ⟨g, 0, none⟩)] w (StepPost (fracS l st) g A cap l w) := by
  have ht := take_any w g A cap l st ⟨#[46]⟩ hN (by decide) hl hp
  rw [show sl ⟨#[46]⟩ = [46] from rfl] at ht
  obtain ⟨b, hb⟩ : ∃ b, seesB l st.pos [46] = b := ⟨_, rfl⟩
  rw [hb] at ht
  have HT := Lib.hid ht
  have HB := Lib.hid hb
  clear ht hN hb
  unfold fracS
  rw [HB.out]
  cases b
  · have hts : takeS [46] l st = st := by unfold takeS; rw [HB.out]; rfl
    go_enter Tryd.func144, Tryd.ntmps144
    go_wp2_with (go_at_call 152; refine HT.out.mono ?_; rintro e w1 ⟨rfl, hw1⟩)
    go_end0
    exact ⟨rfl, hts ▸ hw1⟩
  · have hts : takeS [46] l st = { st with pos := st.pos + 1 } := by unfold takeS; rw [HB.out]; rfl
    have hp1 : st.pos + 1 ≤ l.length := sees_lt HB.out
    obtain ⟨st0, hs0⟩ : ∃ x, ({ st with pos := st.pos + 1, part := true } : NSt) = x := ⟨_, rfl⟩
    have hp0 : st0.pos ≤ l.length := by rw [← hs0]; exact hp1
    have hsz0 : st0.size < 18446744073709551616 := by rw [← hs0]; exact hsz
    have HS := Lib.hid (show ∀ w', NStep w g A cap l { ({ st with pos := st.pos + 1 } : NSt) with part := true } w' → NStep w g A cap l st0 w' from fun w' h => hs0 ▸ h)
    obtain ⟨⟨st', q⟩, hr⟩ : ∃ r, rowS false l st0 = r := ⟨_, rfl⟩
    rw [if_pos rfl, hs0, hr]
    clear hs0
    cases q with
    | none =>
      have HR := Lib.hid (fun w => @row_none false w g A cap l st0 st' hr)
      clear hr
      go_enter Tryd.func144, Tryd.ntmps144
      go_wp2_with (first | (go_at_call 152; refine HT.out.mono ?_; rintro e w1 ⟨rfl, hw1⟩; rw [hts] at hw1; have hf := hw1.1.1.frozen 5; obtain ⟨hc2, _, _⟩ := hw1.1.1.rules; have hw2 := HS.out _ (hw1.set_ 5 (.bool true) (by simp [numCells]))) | (go_at_call 153; refine (HR.out _ hw2.1 hl hp0 hsz0).mono ?_; rintro e w2 ⟨rfl, hw3⟩))
      go_end0
      exact ⟨rfl, hw2.trans hw3⟩
    | some p =>
      have HR := Lib.hid (fun w => @row_some false w g A cap l st0 st' p hr)
      clear hr
      go_enter Tryd.func144, Tryd.ntmps144
      go_wp2_with (first | (go_at_call 152; refine HT.out.mono ?_; rintro e w1 ⟨rfl, hw1⟩; rw [hts] at hw1; have hf := hw1.1.1.frozen 5; obtain ⟨hc2, _, _⟩ := hw1.1.1.rules; have hw2 := HS.out _ (hw1.set_ 5 (.bool true) (by simp [numCells]))) | (go_at_call 153; refine (HR.out _ hw2.1 hl hp0 hsz0).mono ?_; rintro e w2 ⟨rfl, hw3⟩))
      exact ⟨rfl, rfl, hw2.trans hw3⟩

set_option maxRecDepth 100000 in
set_option maxHeartbeats 1000000 in
theorem exponent_any (w : World) (g : Nat) (A : Option Addr) (cap : Nat) (l : List UInt8) (st : NSt) (hN : NB w g A cap l st) (hl : l.length ≤ 1048576) (hp : st.pos ≤ l.length) (hsz : st.size < 18446744073709551616) :
    Calls Tryd.prog 145 #[.pointer (some ⟨g, 0, none⟩)] w (StepPost (expS l st) g A cap l w) := by
  have ht := take_any w g A cap l st ⟨#[101, 69]⟩ hN (by decide) hl hp
  rw [show sl ⟨#[101, 69]⟩ = [101, 69] from rfl] at ht
  obtain ⟨b, hb⟩ : ∃ b, seesB l st.pos [101, 69] = b := ⟨_, rfl⟩
  rw [hb] at ht
  have HT := Lib.hid ht
  have HB := Lib.hid hb
  clear ht hN hb
  unfold expS
  rw [HB.out]
  cases b
  · have hts : takeS [101, 69] l st = st := by unfold takeS; rw [HB.out]; rfl
    go_enter Tryd.func145, Tryd.ntmps145
    go_wp2_with (go_at_call 152; refine HT.out.mono ?_; rintro e w1 ⟨rfl, hw1⟩)
    go_end0
    exact ⟨rfl, hts ▸ hw1⟩
  · have hts : takeS [101, 69] l st = { st with pos := st.pos + 1 } := by unfold takeS; rw [HB.out]; rfl
    have hp1 : st.pos + 1 ≤ l.length := sees_lt HB.out
    obtain ⟨st0, hs0⟩ : ∃ x, ({ st with pos := st.pos + 1, part := true } : NSt) = x := ⟨_, rfl⟩
    have hp0 : st0.pos ≤ l.length := by rw [← hs0]; exact hp1
    have hsz0 : st0.size < 18446744073709551616 := by rw [← hs0]; exact hsz
    have HS := Lib.hid (show ∀ w', NStep w g A cap l { ({ st with pos := st.pos + 1 } : NSt) with part := true } w' → NStep w g A cap l st0 w' from fun w' h => hs0 ▸ h)
    have ht2 := fun w h => take_any w g A cap l st0 ⟨#[43, 45]⟩ h (by decide) hl hp0
    rw [show sl ⟨#[43, 45]⟩ = [43, 45] from rfl] at ht2
    have HT2 := Lib.hid ht2
    clear ht2
    have hp1' : (takeS [43, 45] l st0).pos ≤ l.length := takeS_le hp0
    have hsz1 : (takeS [43, 45] l st0).size < 18446744073709551616 := by rw [takeS_size]; exact hsz0
    obtain ⟨⟨st', q⟩, hr⟩ : ∃ r, rowS false l (takeS [43, 45] l st0) = r := ⟨_, rfl⟩
    rw [if_pos rfl, hs0, hr]
    clear hs0
    cases q with
    | none =>
      have HR := Lib.hid (fun w => @row_none false w g A cap l _ st' hr)
      clear hr
      go_enter Tryd.func145, Tryd.ntmps145
      go_wp2_with (first | (go_at_call 152; refine (HT2.out _ hw2.1).mono ?_; rintro e w5 ⟨rfl, hw4⟩) | (go_at_call 152; refine HT.out.mono ?_; rintro e w1 ⟨rfl, hw1⟩; rw [hts] at hw1; have hf := hw1.1.1.frozen 5; obtain ⟨hc2, _, _⟩ := hw1.1.1.rules; have hw2 := HS.out _ (hw1.set_ 5 (.bool true) (by simp [numCells]))) | (go_at_call 153; refine (HR.out _ hw4.1 hl hp1' hsz1).mono ?_; rintro e w2 ⟨rfl, hw3⟩))
      go_end0
      exact ⟨rfl, (hw2.trans hw4).trans hw3⟩
    | some p =>
      have HR := Lib.hid (fun w => @row_some false w g A cap l _ st' p hr)
      clear hr
      go_enter Tryd.func145, Tryd.ntmps145
      go_wp2_with (first | (go_at_call 152; refine (HT2.out _ hw2.1).mono ?_; rintro e w5 ⟨rfl, hw4⟩) | (go_at_call 152; refine HT.out.mono ?_; rintro e w1 ⟨rfl, hw1⟩; rw [hts] at hw1; have hf := hw1.1.1.frozen 5; obtain ⟨hc2, _, _⟩ := hw1.1.1.rules; have hw2 := HS.out _ (hw1.set_ 5 (.bool true) (by simp [numCells]))) | (go_at_call 153; refine (HR.out _ hw4.1 hl hp1' hsz1).mono ?_; rintro e w2 ⟨rfl, hw3⟩))
      exact ⟨rfl, rfl, (hw2.trans hw4).trans hw3⟩
end Go.Proofs.YtalhoacancbldaaDoor
