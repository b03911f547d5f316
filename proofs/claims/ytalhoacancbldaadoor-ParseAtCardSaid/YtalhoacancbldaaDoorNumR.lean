/- The reference's numeral, with a sign ahead or none; and plain: it is the program's. -/
import Derived.Test.YtalhoacancbldaaDoorRef3Q
import Derived.Test.YtalhoacancbldaaDoorSpecJson
namespace Go.Proofs.YtalhoacancbldaaDoor
set_option linter.unusedVariables false
set_option linter.unusedSimpArgs false
open Go.RowKit
attribute [local go_sem] run_index_arr run_part_agg run_part_one run_field_agg

set_option maxRecDepth 100000 in
set_option maxHeartbeats 4000000 in
theorem rNumber_neg (v : Value) (ds : List UInt8) (w : World) (hv : BS w v (45 :: ds)) (hl : ds.length ≤ 1048576) (hd : ∀ c ∈ ds, isDig c = true) :
    Calls Tryd.prog 75 #[v] w (NumRet (numFit true (digNum ds)) w) := by
  obtain ⟨l, hll⟩ : ∃ l : List UInt8, 45 :: ds = l := ⟨_, rfl⟩
  have hget : ∀ k : Nat, l[k + 1]? = ds[k]? := fun k => by rw [← hll]; rfl
  have hlen : l.length = ds.length + 1 := by rw [← hll]; rfl
  have hc0 : l[0]? = some 45 := by rw [← hll]; rfl
  rw [hll] at hv
  clear hll
  obtain ⟨A, cap, rfl, hcap, hr⟩ := hv
  obtain ⟨r, hr0⟩ : ∃ r, numFit true (digNum ds) = r := ⟨_, rfl⟩
  rw [hr0]
  have HR0 := Lib.hid hr0
  obtain ⟨b, o, rfl, hb⟩ := hr.some_ (show 0 < l.length by omega)
  have HD := Lib.hid (fun (k : Nat) (c : UInt8) (h : ds[k]? = some c) => show 48 ≤ c.toNat ∧ c.toNat ≤ 57 from of_decide_eq_true (hd c (List.mem_of_getElem? h)))
  have hx0 := BS.at_ (n := 0) (cap := 0) hr hc0
  rw [Nat.add_zero] at hx0
  have hx0 : w.cell? ⟨b, o, none⟩ = some (.int .u8 45) := hx0
  have HGET := Lib.hid hget
  have HLEN := Lib.hid hlen
  clear hr0 hd hc0 hget
  go_enter Tryd.func75, Tryd.ntmps75
  go_wp2
  go_loopg [5, 6] l.length (fun gk s5 s6 wx => ∃ (k : Nat) (n : Int), k ≤ l.length ∧ gk = l.length - k ∧ s6 = .int .i64 k ∧ s5 = .int .i64 n ∧ Hid (n = -(digNum (ds.take (k - 1)) : Int)) ∧ n ≤ 0 ∧ -9223372036854775808 ≤ n ∧ wx = w)
  case atStart => exact ⟨0, 0, Nat.zero_le _, rfl, rfl, rfl, Lib.hid (by simp [digNum]), by omega, by omega, rfl⟩
  case round =>
    obtain ⟨k, n, hk, hgk, rfl, rfl, HN, hn0, hn1, rfl⟩ := hrel
    have HG := Lib.hid hgk
    clear hgk
    by_cases hlt : k < l.length
    · rcases Nat.eq_zero_or_pos k with rfl | hk0
      · go_wp2
        go_roundg (l.length - 1)
        case measure => rw [HG.out]; omega
        case rel => exact ⟨1, n, hlt, rfl, by go_num, rfl, Lib.hid (by have := HN.out; simpa using this), hn0, hn1, rfl⟩
      · obtain ⟨c, hc⟩ : ∃ c, l[k]? = some c := ⟨_, List.getElem?_eq_getElem hlt⟩
        have hx := BS.at_ (n := 0) (cap := 0) hr hc
        have hc2 : ds[k - 1]? = some c := by rw [← HGET.out, show k - 1 + 1 = k by omega]; exact hc
        obtain ⟨d1, d2⟩ := HD.out (k - 1) c hc2
        have hsn : digNum (ds.take k) = 10 * digNum (ds.take (k - 1)) + dval c := by
          have e : ds.take k = ds.take (k - 1) ++ [c] := by rw [show k = k - 1 + 1 by omega, List.take_add_one, hc2]; simp
          rw [e]; exact digNum_snoc _ _
        have HSN := Lib.hid hsn
        obtain ⟨q, hq⟩ : ∃ q : Int, (c.toNat : Int) = q := ⟨_, rfl⟩
        have hdv : (dval c : Int) = q - 48 := by unfold dval; omega
        have HDV := Lib.hid hdv
        rw [hq] at hx
        have hq1 : 48 ≤ q := by omega
        have hq2 : q ≤ 57 := by omega
        have htd : (-9223372036854775808 + (q - 48)).tdiv 10 = -((9223372036854775808 - (q - 48)) / 10) := by rw [tdiv10 _ (by omega)]; congr 2; omega
        have HTD := Lib.hid htd
        have hbk : ((k : Int) == 0) = false := by simp; omega
        clear hsn hdv hq htd hc hc2 d1 d2
        by_cases hover : 10 * n - (q - 48) < -9223372036854775808
        · have HRET := Lib.hid (show r = none by
            rw [← HR0.out]
            have h1 := digNum_ge (ds.take k) (ds.drop k)
            rw [List.take_append_drop] at h1
            have h2 := HSN.out
            have h3 := HN.out
            have h4 := HDV.out
            unfold numFit
            rw [if_pos rfl, if_neg (by omega)])
          have hdec : decide (n < (-9223372036854775808 + (q - 48)).tdiv 10) = true := by rw [HTD.out, decide_eq_true_eq]; omega
          clear hover
          go_wp2
          go_ret2
          rw [HRET.out]
          exact ⟨rfl, rfl⟩
        · have hover2 : -9223372036854775808 ≤ 10 * n - (q - 48) := by omega
          have hdec : decide (n < (-9223372036854775808 + (q - 48)).tdiv 10) = false := by rw [HTD.out, decide_eq_false_iff_not]; omega
          clear hover
          go_wp2
          go_roundg (l.length - (k + 1))
          case measure => rw [HG.out]; omega
          case rel => exact ⟨k + 1, _, hlt, rfl, by go_num, rfl, Lib.hid (by rw [Nat.add_sub_cancel, HSN.out]; have h3 := HN.out; have h4 := HDV.out; omega), by omega, hover2, rfl⟩
    · obtain rfl : k = l.length := by omega
      have HRET := Lib.hid (show r = some n by
        rw [← HR0.out]
        have hN := HN.out
        rw [List.take_of_length_le (by have := HLEN.out; omega)] at hN
        unfold numFit
        rw [if_pos rfl, if_pos (by omega)]
        congr 1
        omega)
      go_wp2
      go_ret2
      rw [HRET.out]
      exact ⟨rfl, rfl⟩

/-- the same state with a sign -/
def NSt.sg (st : NSt) (b : Bool) : NSt := { st with minus := b }
theorem digS_sg (gr : Bool) (ds : List UInt8) (st : NSt) (b : Bool) : digS gr ds (st.sg b) = (digS gr ds st).sg b := by
  cases gr with
  | false => rfl
  | true =>
    have h : ∀ (ds : List UInt8) (st : NSt), growAll ds (st.sg b) = (growAll ds st).sg b := by
      intro ds
      induction ds with
      | nil => intro st; rfl
      | cons c r ih => intro st; exact ih (growS (dval c) st)
    unfold digS
    rw [if_pos rfl, if_pos rfl, h]
    rfl
theorem rowS_sg (gr : Bool) (l : List UInt8) (st : NSt) (b : Bool) : rowS gr l (st.sg b) = ((rowS gr l st).1.sg b, (rowS gr l st).2) := by
  unfold rowS
  have e : (st.sg b).pos = st.pos := rfl
  rw [e]
  split
  · rfl
  · rw [digS_sg]
theorem stepK_sg (k : Nat) (l : List UInt8) (st : NSt) (b : Bool) : stepK (k + 1) l (st.sg b) = ((stepK (k + 1) l st).1.sg b, (stepK (k + 1) l st).2) := by
  rcases k with _ | _ | k
  · show wholeS l (st.sg b) = ((wholeS l st).1.sg b, (wholeS l st).2)
    unfold wholeS
    have e : (st.sg b).pos = st.pos := rfl
    rw [e]
    split
    · rfl
    · exact rowS_sg _ _ _ _
  · show fracS l (st.sg b) = ((fracS l st).1.sg b, (fracS l st).2)
    unfold fracS
    have e : (st.sg b).pos = st.pos := rfl
    rw [e]
    split
    · exact rowS_sg _ _ { st with pos := st.pos + 1, part := true } b
    · rfl
  · show expS l (st.sg b) = ((expS l st).1.sg b, (expS l st).2)
    unfold expS
    have e : (st.sg b).pos = st.pos := rfl
    rw [e]
    split
    · have h : takeS [43, 45] l { (st.sg b) with pos := st.pos + 1, part := true } = (takeS [43, 45] l { st with pos := st.pos + 1, part := true }).sg b := by
        unfold takeS
        have e : ({ (st.sg b) with pos := st.pos + 1, part := true } : NSt).pos = st.pos + 1 := rfl
        split <;> rfl
      rw [h]; exact rowS_sg _ _ _ _
    · rfl
theorem run3_sg (l : List UInt8) (st : NSt) (b : Bool) : runK l [1, 2, 3] (st.sg b) = ((runK l [1, 2, 3] st).1.sg b, (runK l [1, 2, 3] st).2) := by
  have go : ∀ (ks : List Nat), (∀ k ∈ ks, 1 ≤ k) → ∀ st : NSt, runK l ks (st.sg b) = ((runK l ks st).1.sg b, (runK l ks st).2) := by
    intro ks
    induction ks with
    | nil => intro _ st; rfl
    | cons k ks ih =>
      intro hk st
      obtain ⟨j, rfl⟩ : ∃ j, k = j + 1 := ⟨k - 1, by have := hk k List.mem_cons_self; omega⟩
      obtain ⟨⟨s1, r⟩, hr⟩ : ∃ r, stepK (j + 1) l st = r := ⟨_, rfl⟩
      have h2 := stepK_sg j l st b
      rw [hr] at h2
      cases r with
      | none =>
        rw [runK_none hr, runK_none h2]
        exact ih (fun k hk' => hk k (List.mem_cons_of_mem _ hk')) s1
      | some q => rw [runK_some hr, runK_some h2]
  exact go [1, 2, 3] (by decide) st
section
variable {l : List UInt8}
/-- a numeral behind its sign, if it begins with a digit -/
theorem num_core {a : Nat} {c : UInt8} (h : l[a]? = some c) (hd : isDig c = true) (b : Bool) : ∃ st' q, runK l [1, 2, 3] ((numStart a).sg b) = (st', q) ∧
    match q with
    | some e => endWhole l a = (e, false, false)
    | none => endWhole l a = (st'.pos, !st'.part, true) ∧ (st'.part = false → st'.minus = b ∧ a < st'.pos ∧ st'.pos ≤ l.length ∧
        ((st'.over = true ∧ 18446744073709551615 < digNum ((l.drop a).take (st'.pos - a))) ∨ (st'.over = false ∧ st'.size = digNum ((l.drop a).take (st'.pos - a)))) ∧ ∀ x ∈ (l.drop a).take (st'.pos - a), isDig x = true) := by
  have hlt := (List.getElem?_eq_some_iff.1 h).1
  obtain ⟨st, w1, w2, w3, w4, w5⟩ := whole_spec h hd
  obtain ⟨st', q, f1, f2⟩ := frac_spec (l := l) w3
  have hr : runK l [1, 2, 3] (numStart a) = (st', q) := by rw [runK_none (k := 1) w1]; exact f1
  have hde : ¬ digEnd l a = a := by
    have hs : seesB l a [48, 49, 50, 51, 52, 53, 54, 55, 56, 57] = true := by rw [sees_none h, u8_dig c]; exact hd
    rw [digEnd_more hs]
    have := (digEnd_le l (a + 1)).1
    omega
  have hew : endWhole l a = endFrac l st.pos := by
    unfold endWhole
    rw [if_neg hde, w2]
  refine ⟨st'.sg b, q, by rw [run3_sg, hr], ?_⟩
  rw [hew]
  cases q with
  | some e => exact f2
  | none =>
    refine ⟨f2.1, fun hp => ?_⟩
    have hss := f2.2 hp
    subst hss
    have hpos : st'.pos = if seesB l a [48] = true then a + 1 else digEnd l a := w2
    have hall : ∀ x ∈ (l.drop a).take (st'.pos - a), isDig x = true := by
      intro x hx
      by_cases hz : seesB l a [48] = true
      · rw [if_pos hz] at hpos
        rw [hpos, show a + 1 - a = 1 by omega, List.drop_eq_getElem_cons hlt] at hx
        obtain rfl : x = l[a] := by rw [List.take_succ_cons, List.take_zero] at hx; exact List.mem_singleton.1 hx
        have : l[a] = c := by rw [List.getElem?_eq_getElem hlt] at h; injection h
        rw [this]; exact hd
      · rw [if_neg hz] at hpos
        rw [hpos] at hx
        unfold digEnd at hx
        rw [show a + (digs l a).length - a = (digs l a).length by omega, digs_take] at hx
        exact digs_all l a x hx
    have hlt2 : a < st'.pos ∧ st'.pos ≤ l.length := by
      by_cases hz : seesB l a [48] = true
      · rw [if_pos hz] at hpos; omega
      · rw [if_neg hz] at hpos
        have := digEnd_le l a
        omega
    refine ⟨rfl, hlt2.1, hlt2.2, ?_, hall⟩
    rcases w5 with ⟨o1, o2⟩ | ⟨o1, o2, o3⟩
    · exact .inl ⟨o1, o2⟩
    · exact .inr ⟨o1, o2⟩
theorem sees_inL {e : Nat} {x : List UInt8} (h : seesB l e x = true) : e < l.length := by
  unfold seesB at h
  cases hg : l[e]? with
  | none => rw [hg] at h; cases h
  | some c => exact (List.getElem?_eq_some_iff.1 hg).1
theorem endExp_in {pl : Bool} {e : Nat} (he : e ≤ l.length) : (endExp l pl e).1 ≤ l.length := by
  unfold endExp
  by_cases h1 : seesB l e [101, 69] = true
  · rw [if_pos h1]
    have h2 := sees_inL h1
    obtain ⟨k, hk⟩ : ∃ k, (if seesB l (e + 1) [43, 45] = true then e + 1 + 1 else e + 1) = k := ⟨_, rfl⟩
    have hkl : k ≤ l.length := by
      rw [← hk]
      by_cases h3 : seesB l (e + 1) [43, 45] = true
      · rw [if_pos h3]; exact sees_inL h3
      · rw [if_neg h3]; exact h2
    rw [hk]
    split
    · exact hkl
    · exact (digEnd_le l k).2 hkl
  · rw [if_neg h1]; exact he
theorem endFrac_in {e : Nat} (he : e ≤ l.length) : (endFrac l e).1 ≤ l.length := by
  unfold endFrac
  by_cases h1 : seesB l e [46] = true
  · rw [if_pos h1]
    have h2 := sees_inL h1
    split
    · exact h2
    · exact endExp_in ((digEnd_le l (e + 1)).2 h2)
  · rw [if_neg h1]; exact endExp_in he
theorem endWhole_in {a : Nat} (ha : a ≤ l.length) : (endWhole l a).1 ≤ l.length := by
  unfold endWhole
  split
  · exact ha
  · refine endFrac_in ?_
    by_cases h1 : seesB l a [48] = true
    · rw [if_pos h1]; exact sees_inL h1
    · rw [if_neg h1]; exact (digEnd_le l a).2 ha
theorem endWhole_le {a : Nat} (ha : a ≤ l.length) : (endWhole l a).1 ≤ l.length := endWhole_in ha
/-- what the reference makes of a numeral, and that it is the program's -/
theorem num_ref {p : Nat} {c : UInt8} (h : l[p]? = some c) (hc : c.toNat = 45 ∨ isDig c = true) (hl : l.length ≤ 1048576) : ∃ (e : Nat) (pl rt : Bool), endS l p = (e, pl, rt) ∧
    (rt = false → e ≤ l.length ∧ numJ l p = .inr (failF l (e : Nat) 7)) ∧ (rt = true → pl = false → numJ l p = .inr (failF l (p : Nat) 130)) ∧
    (rt = true → pl = true → p < e ∧ e ≤ l.length ∧ ∃ r : Option Int, (∀ w v, BS w v ((l.drop p).take (e - p)) → Calls Tryd.prog 75 #[v] w (NumRet r w)) ∧
      numJ l p = match r with | some n => .inl (.mk 3 n [] [] [], e) | none => .inr (failF l (p : Nat) 130)) := by
  have hlt := (List.getElem?_eq_some_iff.1 h).1
  obtain ⟨a, b, hab, hrun, hend⟩ : ∃ (a : Nat) (b : Bool), ((a = p ∧ b = false ∧ isDig c = true) ∨ (a = p + 1 ∧ b = true ∧ c.toNat = 45)) ∧ numRun l (numStart p) = runK l [1, 2, 3] ((numStart a).sg b) ∧ endS l p = endWhole l a := by
    by_cases h45 : c.toNat = 45
    · have hc45 : c = 45 := UInt8.toNat_inj.1 (by rw [h45]; rfl)
      have hm : seesB l p [45] = true := by rw [sees_none h, hc45]; decide
      refine ⟨p + 1, true, .inr ⟨rfl, rfl, h45⟩, ?_, ?_⟩
      · unfold numRun
        have s0 : stepK 0 l (numStart p) = ((numStart (p + 1)).sg true, none) := by
          show signS l (numStart p) = _
          unfold signS takeS
          have : (numStart p).pos = p := rfl
          rw [this, hm]; rfl
        rw [runK_none s0]
      · unfold endS; rw [hm]; rfl
    · have hm : seesB l p [45] = false := by
        rw [sees_none h]
        have : c ≠ 45 := fun e => h45 (by rw [e]; rfl)
        simpa using this
      refine ⟨p, false, .inl ⟨rfl, rfl, hc.resolve_left h45⟩, ?_, ?_⟩
      · unfold numRun
        have s0 : stepK 0 l (numStart p) = ((numStart p).sg false, none) := by
          show signS l (numStart p) = _
          unfold signS takeS
          have : (numStart p).pos = p := rfl
          rw [this, hm]; rfl
        rw [runK_none s0]
      · unfold endS; rw [hm]; rfl
  have hap : p ≤ a ∧ a ≤ l.length := by rcases hab with ⟨rfl, _⟩ | ⟨rfl, _⟩ <;> omega
  by_cases hdig : ∃ d, l[a]? = some d ∧ isDig d = true
  · obtain ⟨d, hd1, hd2⟩ := hdig
    obtain ⟨st', q, r1, r2⟩ := num_core hd1 hd2 b
    rw [r1] at hrun
    have hnr := num_read_of (by omega) hrun
    cases q with
    | some e =>
      simp only at r2
      have hle := endWhole_le (l := l) (a := a) hap.2
      rw [r2] at hle
      refine ⟨e, false, false, by rw [hend, r2], fun _ => ⟨hle, ?_⟩, fun h => (by cases h), fun h => (by cases h)⟩
      unfold numJ
      rw [hnr]; rfl
    | none =>
      obtain ⟨r2, r3⟩ := r2
      refine ⟨st'.pos, !st'.part, true, by rw [hend, r2], fun h => (by cases h), fun _ hp => ?_, fun _ hp => ?_⟩
      · have hpt : st'.part = true := by simpa using hp
        have : numEnd st' (p : Int) = (0, (p : Int), 130) := by unfold numEnd; rw [hpt]; simp
        have hnr2 : numRead l (p : Int) = (0, (p : Int), 130) := hnr.trans this
        unfold numJ
        rw [hnr2, if_neg (show ¬ ((130 : Int) = 0) by decide)]
      · have hpt : st'.part = false := by simpa using hp
        obtain ⟨m1, m2, m3, m4, m5⟩ := r3 hpt
        refine ⟨by omega, m3, numFit b (digNum ((l.drop a).take (st'.pos - a))), fun w v hv => ?_, ?_⟩
        · rcases hab with ⟨rfl, rfl, _⟩ | ⟨rfl, rfl, h45⟩
          · refine rNumber_pos v _ w hv (by rw [List.length_take, List.length_drop]; omega) m5 (fun e => ?_)
            have := congrArg List.length e
            rw [List.length_take, List.length_drop, List.length_nil] at this
            omega
          · have e : (l.drop p).take (st'.pos - p) = 45 :: (l.drop (p + 1)).take (st'.pos - (p + 1)) := by
              have hgc : l[p] = 45 := by
                have : l[p] = c := by rw [List.getElem?_eq_getElem hlt] at h; injection h
                rw [this]; exact UInt8.toNat_inj.1 (by rw [h45]; rfl)
              rw [List.drop_eq_getElem_cons hlt, hgc, show st'.pos - p = (st'.pos - (p + 1)) + 1 by omega, List.take_succ_cons]
            rw [e] at hv
            exact rNumber_neg v _ w hv (by rw [List.length_take, List.length_drop]; omega) m5
        · obtain ⟨D, hD⟩ : ∃ D, digNum ((l.drop a).take (st'.pos - a)) = D := ⟨_, rfl⟩
          rw [hD] at m4 ⊢
          unfold numJ
          rw [hnr]
          show (if (numEnd st' (p : Int)).2.2 = 0 then Sum.inl (JV.mk 3 (numEnd st' (p : Int)).1 [] [] [], (numEnd st' (p : Int)).2.1.toNat) else .inr (failF l (numEnd st' (p : Int)).2.1 (numEnd st' (p : Int)).2.2)) = _
          have hbig : numBig st'.minus = if b then 9223372036854775808 else 9223372036854775807 := by rw [m1]; rfl
          rcases m4 with ⟨o1, o2⟩ | ⟨o1, o2⟩
          · have h1 : numEnd st' (p : Int) = (0, (p : Int), 130) := by unfold numEnd; rw [o1]; simp
            have h2 : numFit b D = none := by unfold numFit; cases b <;> simp <;> omega
            rw [h1, h2, if_neg (show ¬ ((130 : Int) = 0) by decide)]
          · by_cases hf : D ≤ numBig st'.minus
            · have h1 : numEnd st' (p : Int) = ((if b then -(D : Int) else (D : Int)), (st'.pos : Int), 0) := by
                unfold numEnd
                rw [hpt, o1, o2, decide_eq_false (by omega), m1]
                simp
              have h2 : numFit b D = some (if b then -(D : Int) else (D : Int)) := by
                rw [hbig] at hf
                unfold numFit
                cases b
                · rw [if_neg (by simp), if_pos (by simpa using hf)]; rfl
                · rw [if_pos rfl, if_pos (by simpa using hf)]; rfl
              rw [h1, h2, if_pos rfl, Int.toNat_natCast]
            · have h1 : numEnd st' (p : Int) = (0, (p : Int), 130) := by
                unfold numEnd
                rw [hpt, o1, o2, decide_eq_true (by omega)]
                simp
              have h2 : numFit b D = none := by
                rw [hbig] at hf
                unfold numFit
                cases b
                · rw [if_neg (by simp), if_neg (by simpa using hf)]
                · rw [if_pos rfl, if_neg (by simpa using hf)]
              rw [h1, h2, if_neg (show ¬ ((130 : Int) = 0) by decide)]
  · have hdg : digs l a = [] := by
      unfold digs
      rcases Nat.lt_or_ge a l.length with h1 | h1
      · rw [List.drop_eq_getElem_cons h1, List.takeWhile_cons, if_neg]
        intro h2
        exact hdig ⟨l[a], List.getElem?_eq_getElem h1, h2⟩
      · rw [List.drop_eq_nil_of_le h1]; rfl
    have hz : seesB l a [48] = false := by
      cases hz : seesB l a [48] with
      | false => rfl
      | true =>
        exfalso
        cases hga : l[a]? with
        | none => unfold seesB at hz; rw [hga] at hz; cases hz
        | some d =>
          rw [sees_none hga] at hz
          have : d = 48 := by simpa using hz
          exact hdig ⟨d, hga, by rw [this]; decide⟩
    have hw : wholeS l ((numStart a).sg b) = ((numStart a).sg b, some a) := by
      unfold wholeS
      have e : ((numStart a).sg b).pos = a := rfl
      rw [e, hz, if_neg (by simp)]
      unfold rowS
      rw [e, if_pos hdg]
    rw [runK_some (k := 1) hw] at hrun
    have hnr := num_read_of (by omega) hrun
    refine ⟨a, false, false, ?_, fun _ => ⟨hap.2, ?_⟩, fun h => (by cases h), fun h => (by cases h)⟩
    · rw [hend]
      unfold endWhole
      rw [if_pos (by unfold digEnd; rw [hdg]; rfl)]
    · unfold numJ
      rw [hnr]; rfl
end
end Go.Proofs.YtalhoacancbldaaDoor
