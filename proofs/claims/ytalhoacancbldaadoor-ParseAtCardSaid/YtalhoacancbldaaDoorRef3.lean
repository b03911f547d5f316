import Derived.Test.YtalhoacancbldaaDoorRef1
import Derived.Test.YtalhoacancbldaaDoorSpecNum
import Derived.Deep.DeepCutAuto
import Derived.Deep.CutBlock
/- The walks of the reference davenportref03: is, run. -/
namespace Go.Proofs.YtalhoacancbldaaDoor
set_option linter.unusedVariables false
set_option linter.unusedSimpArgs false
open Go.RowKit
attribute [local go_sem] run_index_arr run_part_agg run_part_one run_field_agg

set_option maxRecDepth 100000 in
set_option maxHeartbeats 2000000 in
theorem rSees_any (v : Value) (l : List UInt8) (p : Nat) (t : ByteArray) (w : World) (hv : BS w v l) (hl : l.length ≤ 1048576) (hp : p ≤ 2097152) (ht : t.size ≤ 1048576) :
    Calls Tryd.prog 92 #[v, .int .i64 p, .string t] w fun e w' => e = .returned (.bool (seesB l p (sl t))) ∧ ∃ q, w.drewN q = w' := by
  obtain ⟨A, cap, rfl, hcap, hr⟩ := hv
  obtain ⟨bb, hbb⟩ : ∃ b, seesB l p (sl t) = b := ⟨_, rfl⟩
  rw [hbb]
  by_cases hlt : p < l.length
  · obtain ⟨c, hc⟩ : ∃ c, l[p]? = some c := ⟨_, List.getElem?_eq_getElem hlt⟩
    obtain ⟨b, o, rfl, hb⟩ := hr.some_ (by omega)
    have hx := BS.at_ (n := 0) (cap := 0) hr hc
    unfold seesB at hbb
    rw [hc] at hbb
    simp only at hbb
    have HB := Lib.hid hbb
    clear hbb hc
    go_enter Tryd.func92, Tryd.ntmps92
    go_wp2
    go_loopg [7] t.size (fun gk i wr => ∃ k q : Nat, k ≤ t.size ∧ gk = t.size - k ∧ i = .int .i64 k ∧ wr = w.drewN q ∧ Hid (bb = ((sl t).drop k).contains c))
    case atStart => exact ⟨0, 0, Nat.zero_le _, rfl, rfl, rfl, Lib.hid (by rw [← HB.out]; simp)⟩
    case round =>
      obtain ⟨k, q, hk, hgk, rfl, rfl, HC⟩ := hrel
      have HG := Lib.hid hgk
      clear hgk
      by_cases hkt : k < t.size
      · have hd : (sl t).drop k = t[k] :: (sl t).drop (k + 1) := List.drop_eq_getElem_cons (by rw [sl_len]; exact hkt)
        obtain ⟨x, hx2⟩ : ∃ x, t[k] = x := ⟨_, rfl⟩
        rw [hx2] at hd
        have HD := Lib.hid hd
        clear hd
        by_cases hxc : x = c
        · subst hxc
          have hbt : ((x.toNat : Int) == (x.toNat : Int)) = true := by simp
          go_wp2
          go_quiet (fail)
          go_wp2
          go_ret
          exact ⟨ret_bool (by rw [HC.out, HD.out]; simp), q + nq, (World.drewN_drewN _ _ _).symm⟩
        · have hne : ((x.toNat : Int) == (c.toNat : Int)) = false := by
            have : x.toNat ≠ c.toNat := fun e => hxc (UInt8.toNat_inj.1 e)
            simp; omega
          go_wp2
          go_quiet (fail)
          go_wp2
          go_roundg (t.size - (k + 1))
          case measure => rw [HG.out]; omega
          case rel => exact ⟨k + 1, q + nq, hkt, rfl, by go_num, rfl, Lib.hid (by rw [HC.out, HD.out, List.contains_cons]; simp; intro h; exact absurd h.symm hxc)⟩
      · obtain rfl : k = t.size := by omega
        go_wp2
        go_ret
        exact ⟨ret_bool (by rw [HC.out, List.drop_eq_nil_of_le (by rw [sl_len]; exact Nat.le_refl _)]; rfl), q, rfl⟩
  · have HF := Lib.hid (show bb = false by rw [← hbb]; unfold seesB; rw [List.getElem?_eq_none (by omega)])
    clear hbb
    go_enter Tryd.func92, Tryd.ntmps92
    go_wp2
    go_ret
    exact ⟨ret_bool HF.out.symm, 0, rfl⟩

theorem digEnd_more {l : List UInt8} {p : Nat} (h : seesB l p [48, 49, 50, 51, 52, 53, 54, 55, 56, 57] = true) : digEnd l p = digEnd l (p + 1) := by
  obtain ⟨c, _, _, _, e⟩ := digs_cons h
  unfold digEnd
  rw [e]; simp; omega
theorem digEnd_stop {l : List UInt8} {p : Nat} (h : seesB l p [48, 49, 50, 51, 52, 53, 54, 55, 56, 57] = false) : digEnd l p = p := by
  unfold digEnd
  rw [digs_nil h]; rfl
theorem seesB_lt {l s : List UInt8} {p : Nat} (h : seesB l p s = true) : p < l.length := by
  unfold seesB at h
  cases hl : l[p]? with
  | none => rw [hl] at h; cases h
  | some c => exact (List.getElem?_eq_some_iff.1 hl).1
theorem rDigit3_any (v : Value) (l : List UInt8) (p : Nat) (w : World) (hv : BS w v l) (hl : l.length ≤ 1048576) (hp : p ≤ 2097152) :
    Calls Tryd.prog 92 #[v, .int .i64 p, .string ⟨#[48, 49, 50, 51, 52, 53, 54, 55, 56, 57]⟩] w fun e w' => e = .returned (.bool (seesB l p [48, 49, 50, 51, 52, 53, 54, 55, 56, 57])) ∧ ∃ q, w.drewN q = w' :=
  rSees_any v l p ⟨#[48, 49, 50, 51, 52, 53, 54, 55, 56, 57]⟩ w hv hl hp (by decide)

set_option maxRecDepth 100000 in
set_option maxHeartbeats 2000000 in
theorem rRun_any (v : Value) (l : List UInt8) (p : Nat) (w : World) (hv : BS w v l) (hl : l.length ≤ 1048576) (hp : p ≤ 1048580) :
    Calls Tryd.prog 93 #[v, .int .i64 p] w fun e w' => e = .returned (.int .i64 (digEnd l p)) ∧ ∃ q, w.drewN q = w' := by
  obtain ⟨d, hd⟩ : ∃ d, digEnd l p = d := ⟨_, rfl⟩
  rw [hd]
  have HD := Lib.hid hd
  have HV := Lib.hid hv
  obtain ⟨A, cap, rfl, hcap, hr⟩ := hv
  clear hd
  go_enter Tryd.func93, Tryd.ntmps93
  go_wp2
  go_loopg [1] (1048580 + l.length - p) (fun gk i wr => ∃ k q : Nat, k ≤ 1048580 ∧ gk = 1048580 + l.length - k ∧ i = .int .i64 k ∧ wr = w.drewN q ∧ Hid (d = digEnd l k) ∧ (k ≤ l.length ∨ k = p))
  case atStart => exact ⟨p, 0, hp, rfl, rfl, rfl, Lib.hid HD.out.symm, .inr rfl⟩
  case round =>
    obtain ⟨k, q, hk, hgk, rfl, rfl, HK, hkp⟩ := hrel
    have HG := Lib.hid hgk
    clear hgk
    have hS := rDigit3_any _ l k (w.drewN q) (HV.out.drewN q) hl (by omega)
    cases hs : seesB l k [48, 49, 50, 51, 52, 53, 54, 55, 56, 57] with
    | true =>
      have hlt := seesB_lt hs
      have HM := Lib.hid (digEnd_more hs)
      rw [hs] at hS
      have HS := Lib.hid hS
      clear hS hs
      go_wp2_with fail
      refine HS.out.mono ?_
      rintro e w1 ⟨rfl, q1, rfl⟩
      go_wp2_with fail
      go_roundg (1048580 + l.length - (k + 1))
      case measure => rw [HG.out]; omega
      case rel => exact ⟨k + 1, q + q1, by omega, rfl, by go_num, rfl, Lib.hid (by rw [HK.out, HM.out]), .inl hlt⟩
    | false =>
      have HM := Lib.hid (digEnd_stop hs)
      rw [hs] at hS
      have HS := Lib.hid hS
      clear hS hs
      go_wp2_with fail
      refine HS.out.mono ?_
      rintro e w1 ⟨rfl, q1, rfl⟩
      go_wp2_with fail
      go_ret
      exact ⟨ret_int (by rw [HK.out, HM.out]), q + q1, rfl⟩

/-- the end of a numeral, as the reference reckons it: the exponent -/
def endExp (l : List UInt8) (plain : Bool) (e : Nat) : Nat × Bool × Bool :=
  if seesB l e [101, 69] then
    if digEnd l (if seesB l (e + 1) [43, 45] then e + 1 + 1 else e + 1) = (if seesB l (e + 1) [43, 45] then e + 1 + 1 else e + 1) then ((if seesB l (e + 1) [43, 45] then e + 1 + 1 else e + 1), false, false)
    else (digEnd l (if seesB l (e + 1) [43, 45] then e + 1 + 1 else e + 1), false, true)
  else (e, plain, true)
def endFrac (l : List UInt8) (e : Nat) : Nat × Bool × Bool :=
  if seesB l e [46] then if digEnd l (e + 1) = e + 1 then (e + 1, false, false) else endExp l false (digEnd l (e + 1)) else endExp l true e
def endWhole (l : List UInt8) (a : Nat) : Nat × Bool × Bool :=
  if digEnd l a = a then (a, false, false) else endFrac l (if seesB l a [48] then a + 1 else digEnd l a)
def endS (l : List UInt8) (p : Nat) : Nat × Bool × Bool := endWhole l (if seesB l p [45] then p + 1 else p)
theorem digEnd_le (l : List UInt8) (p : Nat) : p ≤ digEnd l p ∧ (p ≤ l.length → digEnd l p ≤ l.length) := by
  unfold digEnd
  have := digs_le l p
  exact ⟨Nat.le_add_right _ _, fun h => by omega⟩
theorem seesK_any {K : List UInt8} (v : Value) (l : List UInt8) (p : Nat) (w : World) (hv : BS w v l) (hl : l.length ≤ 1048576) (hp : p ≤ 2097152) (hK : K.length ≤ 1048576) {bb : Bool} (hbb : seesB l p K = bb) :
    Calls Tryd.prog 92 #[v, .int .i64 p, .string ⟨K.toArray⟩] w fun e w' => e = .returned (.bool bb) ∧ ∃ q, w.drewN q = w' := by
  have := rSees_any v l p ⟨K.toArray⟩ w hv hl hp (by simpa [ByteArray.size] using hK)
  rw [sl_mk, hbb] at this
  exact this
def EndPost (r : Nat × Bool × Bool) (w : World) (e : Ending) (w' : World) : Prop := e = .returned (.tuple #[.int .i64 r.1, .bool r.2.1, .bool r.2.2]) ∧ ∃ q, w.drewN q = w'
set_option maxRecDepth 100000 in
set_option maxHeartbeats 4000000 in
theorem rEnd_any (v : Value) (l : List UInt8) (p : Nat) (w : World) (hv : BS w v l) (hl : l.length ≤ 1048576) (hp : p ≤ l.length) :
    Calls Tryd.prog 74 #[v, .int .i64 p] w (EndPost (endS l p) w) := by
  obtain ⟨r, hr⟩ : ∃ r, endS l p = r := ⟨_, rfl⟩
  rw [hr]
  have HV := Lib.hid hv
  clear hv
  have HVd := Lib.hid (fun q => BS.drewN HV.out q)
  obtain ⟨bm, hbm⟩ : ∃ b, seesB l p [45] = b := ⟨_, rfl⟩
  have H1 := Lib.hid (seesK_any v l p w HV.out hl (by omega) (by decide) hbm)
  obtain ⟨a, ha⟩ : ∃ a, (if bm = true then p + 1 else p) = a := ⟨_, rfl⟩
  have hal : a ≤ l.length := by
    rw [← ha]
    split
    · rename_i h; rw [h] at hbm; have := seesB_lt hbm; omega
    · exact hp
  have hra : r = endWhole l a := by rw [← hr, endS, hbm, ha]
  have HRA := Lib.hid hra
  have HA := Lib.hid ha
  clear hr hbm hra ha
  go_enter Tryd.func74, Tryd.ntmps74
  go_upto_if 11 with fail
  refine H1.out.mono ?_
  rintro e w1 ⟨rfl, q1, rfl⟩
  go_upto_if 11 with fail
  go_cut [1] (fun s1 wx => s1 = .int .i64 a ∧ ∃ q, wx = w.drewN q)
  case first =>
    cases bm
    · go_wp2
      go_meet
      case rel => exact ⟨by have := HA.out; simp at this; rw [this], q1, rfl⟩
    · go_wp2
      go_meet
      case rel => exact ⟨by have := HA.out; simp at this; rw [← this]; go_num, q1, rfl⟩
  case rest =>
    obtain ⟨rfl, q2, rfl⟩ := hcut
    have hde := digEnd_le l a
    have H2 := Lib.hid (rRun_any v l a (w.drewN q2) (HVd.out q2) hl (by omega))
    obtain ⟨d, hd⟩ : ∃ d, digEnd l a = d := ⟨_, rfl⟩
    rw [hd] at H2 hde
    have HD := Lib.hid hd
    clear hd H1 HA
    by_cases hda : d = a
    · have HR := Lib.hid (show r = (a, false, false) by rw [HRA.out, endWhole, HD.out, if_pos hda])
      have hdb : ((d : Int) == (a : Int)) = true := by simp; omega
      clear hda
      go_wp2_with fail
      refine H2.out.mono ?_
      rintro e w2 ⟨rfl, q3, rfl⟩
      go_wp2
      go_ret3
      rw [HR.out]
      exact ⟨rfl, _, rfl⟩
    · have hdb : ((d : Int) == (a : Int)) = false := by simp; omega
      obtain ⟨bz, hbz⟩ : ∃ b, seesB l a [48] = b := ⟨_, rfl⟩
      obtain ⟨e2, he2⟩ : ∃ e, (if bz = true then a + 1 else d) = e := ⟨_, rfl⟩
      have hel : e2 ≤ l.length := by
        rw [← he2]
        split
        · omega
        · omega
      have HR := Lib.hid (show r = endFrac l e2 by rw [HRA.out, endWhole, HD.out, if_neg hda, hbz, he2])
      have H3 := Lib.hid (fun q => seesK_any v l a (w.drewN q) (HVd.out q) hl (by omega) (by decide) hbz)
      have HE := Lib.hid he2
      clear hbz he2 hda HRA
      go_upto_if 23 with fail
      refine H2.out.mono ?_
      rintro e w2 ⟨rfl, q3, rfl⟩
      go_upto_if 23 with fail
      refine (H3.out _).mono ?_
      rintro e w3 ⟨rfl, q4, rfl⟩
      go_upto_if 23 with fail
      go_cut [7] (fun s7 wx => s7 = .int .i64 e2 ∧ ∃ q, wx = w.drewN q)
      case first =>
        cases bz
        · go_wp2
          go_meet
          case rel => exact ⟨by have := HE.out; simp at this; rw [this], _, rfl⟩
        · go_wp2
          go_meet
          case rel => exact ⟨by have := HE.out; simp at this; rw [← this]; go_num, _, rfl⟩
      case rest =>
        obtain ⟨rfl, q5, rfl⟩ := hcut
        obtain ⟨bf, hbf⟩ : ∃ b, seesB l e2 [46] = b := ⟨_, rfl⟩
        have H4 := Lib.hid (fun q => seesK_any v l e2 (w.drewN q) (HVd.out q) hl (by omega) (by decide) hbf)
        have HBF := Lib.hid hbf
        clear hbf H2 H3 HE hde
        go_upto_if 28 with fail
        refine (H4.out _).mono ?_
        rintro e w3 ⟨rfl, q6, rfl⟩
        go_upto_if 28 with fail
        go_cut [7, 8] (fun s7 s8 wx => ∃ (e3 : Nat) (pl : Bool), s7 = .int .i64 e3 ∧ s8 = .bool pl ∧ e3 ≤ l.length ∧ Hid (r = endExp l pl e3) ∧ ∃ q, wx = w.drewN q)
        case first =>
          cases bf
          · go_wp2
            go_meet
            case rel => exact ⟨e2, true, rfl, rfl, hel, Lib.hid (by rw [HR.out, endFrac, HBF.out]; rfl), _, rfl⟩
          · have hlt := seesB_lt HBF.out
            have hde := digEnd_le l (e2 + 1)
            have H5 := Lib.hid (fun q => rRun_any v l (e2 + 1) (w.drewN q) (HVd.out q) hl (by omega))
            obtain ⟨d2, hd2⟩ : ∃ d, digEnd l (e2 + 1) = d := ⟨_, rfl⟩
            rw [hd2] at H5 hde
            have HD2 := Lib.hid hd2
            have e21 : ((e2 + 1 : Nat) : Int) = (e2 : Int) + 1 := by omega
            rw [e21] at H5
            clear hd2 e21
            by_cases hda : d2 = e2 + 1
            · have hdb2 : ((d2 : Int) == (e2 : Int) + 1) = true := by simp; omega
              have HR2 := Lib.hid (show r = (e2 + 1, false, false) by rw [HR.out, endFrac, HBF.out, if_pos rfl, HD2.out, if_pos hda])
              clear hda
              go_wp2_with fail
              refine (H5.out _).mono ?_
              rintro e w2 ⟨rfl, q7, rfl⟩
              go_wp2
              go_ret3
              rw [HR2.out]
              exact ⟨by simp, _, rfl⟩
            · have hdb2 : ((d2 : Int) == (e2 : Int) + 1) = false := by simp; omega
              have HR2 := Lib.hid (show r = endExp l false d2 by rw [HR.out, endFrac, HBF.out, if_pos rfl, HD2.out, if_neg hda])
              have hd2l : d2 ≤ l.length := hde.2 hlt
              clear hda
              go_wp2_with fail
              refine (H5.out _).mono ?_
              rintro e w2 ⟨rfl, q7, rfl⟩
              go_wp2
              go_meet
              case rel => exact ⟨d2, false, rfl, rfl, hd2l, HR2, _, rfl⟩
        case rest =>
          obtain ⟨e3, pl, rfl, rfl, hel3, HRX, q7, rfl⟩ := hcut
          obtain ⟨be, hbe⟩ : ∃ b, seesB l e3 [101, 69] = b := ⟨_, rfl⟩
          have H6 := Lib.hid (fun q => seesK_any v l e3 (w.drewN q) (HVd.out q) hl (by omega) (by decide) hbe)
          have HBE := Lib.hid hbe
          clear hbe H4 HBF HR
          cases be
          · have HR2 := Lib.hid (show r = (e3, pl, true) by rw [HRX.out, endExp, HBE.out]; rfl)
            go_wp2_with fail
            refine (H6.out _).mono ?_
            rintro e w2 ⟨rfl, q8, rfl⟩
            go_wp2
            go_ret3
            rw [HR2.out]
            exact ⟨rfl, _, rfl⟩
          · have hlt := seesB_lt HBE.out
            obtain ⟨bs, hbs⟩ : ∃ b, seesB l (e3 + 1) [43, 45] = b := ⟨_, rfl⟩
            obtain ⟨a2, ha2⟩ : ∃ a, (if bs = true then e3 + 1 + 1 else e3 + 1) = a := ⟨_, rfl⟩
            have ha2l : a2 ≤ l.length := by
              rw [← ha2]
              split
              · rename_i h; rw [h] at hbs; have := seesB_lt hbs; omega
              · omega
            have H7 := Lib.hid (fun q => seesK_any v l (e3 + 1) (w.drewN q) (HVd.out q) hl (by omega) (by decide) hbs)
            have e31 : ((e3 + 1 : Nat) : Int) = (e3 : Int) + 1 := by omega
            rw [e31] at H7
            have hde := digEnd_le l a2
            have H8 := Lib.hid (fun q => rRun_any v l a2 (w.drewN q) (HVd.out q) hl (by omega))
            obtain ⟨d3, hd3⟩ : ∃ d, digEnd l a2 = d := ⟨_, rfl⟩
            rw [hd3] at H8 hde
            have hre : r = if d3 = a2 then (a2, false, false) else (d3, false, true) := by rw [HRX.out, endExp, HBE.out, if_pos rfl, hbs, ha2, hd3]
            have HRE := Lib.hid hre
            have HA2 := Lib.hid ha2
            clear hbs ha2 hd3 hre e31
            go_upto_if 40 with fail
            refine (H6.out _).mono ?_
            rintro e w2 ⟨rfl, q8, rfl⟩
            go_upto_if 45 with fail
            refine (H7.out _).mono ?_
            rintro e w2 ⟨rfl, q9, rfl⟩
            go_upto_if 45 with fail
            go_cut [1] (fun s1 wx => s1 = .int .i64 a2 ∧ ∃ q, wx = w.drewN q)
            case first =>
              cases bs
              · go_wp2
                go_meet
                case rel => exact ⟨by have := HA2.out; simp at this; rw [← this]; go_num, _, rfl⟩
              · go_wp2
                go_meet
                case rel => exact ⟨by have := HA2.out; simp at this; rw [← this]; go_num, _, rfl⟩
            case rest =>
              obtain ⟨rfl, q10, rfl⟩ := hcut
              by_cases hda : d3 = a2
              · have hdb3 : ((d3 : Int) == (a2 : Int)) = true := by simp; omega
                have HR2 := Lib.hid (HRE.out.trans (if_pos hda))
                clear hda
                go_wp2_with fail
                refine (H8.out _).mono ?_
                rintro e w2 ⟨rfl, q11, rfl⟩
                go_wp2
                go_ret3
                rw [HR2.out]
                exact ⟨rfl, _, rfl⟩
              · have hdb3 : ((d3 : Int) == (a2 : Int)) = false := by simp; omega
                have HR2 := Lib.hid (HRE.out.trans (if_neg hda))
                clear hda
                go_wp2_with fail
                refine (H8.out _).mono ?_
                rintro e w2 ⟨rfl, q11, rfl⟩
                go_wp2
                go_ret3
                rw [HR2.out]
                exact ⟨rfl, _, rfl⟩
end Go.Proofs.YtalhoacancbldaaDoor

/- The walks of the reference davenportref03: Number. -/
namespace Go.Proofs.YtalhoacancbldaaDoor
set_option linter.unusedVariables false
set_option linter.unusedSimpArgs false
open Go.RowKit
attribute [local go_sem] run_index_arr run_part_agg run_part_one run_field_agg

theorem tdiv10 (x : Int) (h : x ≤ 0) : x.tdiv 10 = -((-x) / 10) := by
  have h1 : x = -(-x) := by omega
  rw [h1, Int.neg_tdiv, Int.tdiv_eq_ediv_of_nonneg (by omega), Int.neg_neg]
theorem digNum_snoc (ds : List UInt8) (c : UInt8) : digNum (ds ++ [c]) = 10 * digNum ds + dval c := by simp [digNum]
theorem digNum_ge (ds r : List UInt8) : digNum ds ≤ digNum (ds ++ r) := by
  induction r generalizing ds with
  | nil => simp
  | cons c r ih =>
    have := ih (ds ++ [c])
    rw [List.append_assoc, List.singleton_append, digNum_snoc] at this
    omega
/-- the number of a row of digits, with a sign ahead or none; none: it does not fit -/
def numFit (m : Bool) (D : Nat) : Option Int := if m then if D ≤ 9223372036854775808 then some (-(D : Int)) else none else if D ≤ 9223372036854775807 then some D else none
def NumRet (r : Option Int) (w : World) (e : Ending) (w' : World) : Prop :=
  (match r with | some n => e = .returned (.tuple #[.int .i64 n, .bool true]) | none => e = .returned (.tuple #[.int .i64 0, .bool false])) ∧ w = w'

set_option maxRecDepth 100000 in
set_option maxHeartbeats 4000000 in
theorem rNumber_pos (v : Value) (l : List UInt8) (w : World) (hv : BS w v l) (hl : l.length ≤ 1048576) (hd : ∀ c ∈ l, isDig c = true) (hn : l ≠ []) :
    Calls Tryd.prog 75 #[v] w (NumRet (numFit false (digNum l)) w) := by
  obtain ⟨A, cap, rfl, hcap, hr⟩ := hv
  obtain ⟨r, hr0⟩ : ∃ r, numFit false (digNum l) = r := ⟨_, rfl⟩
  rw [hr0]
  have HR0 := Lib.hid hr0
  have hpos : 0 < l.length := List.length_pos_iff.2 hn
  obtain ⟨b, o, rfl, hb⟩ := hr.some_ hpos
  have HD := Lib.hid (fun (k : Nat) (c : UInt8) (h : l[k]? = some c) => show 48 ≤ c.toNat ∧ c.toNat ≤ 57 from of_decide_eq_true (hd c (List.mem_of_getElem? h)))
  obtain ⟨c0, hc0⟩ : ∃ c, l[0]? = some c := ⟨_, List.getElem?_eq_getElem hpos⟩
  have hx0 := BS.at_ (n := 0) (cap := 0) hr hc0
  rw [Nat.add_zero] at hx0
  have hne : ((c0.toNat : Int) == 45) = false := by have := HD.out 0 c0 hc0; simp; omega
  clear hr0 hd hn hc0
  go_enter Tryd.func75, Tryd.ntmps75
  go_wp2
  go_loopg [5, 6] l.length (fun gk s5 s6 wx => ∃ (k : Nat) (n : Int), k ≤ l.length ∧ gk = l.length - k ∧ s6 = .int .i64 k ∧ s5 = .int .i64 n ∧ Hid (n = -(digNum (l.take k) : Int)) ∧ n ≤ 0 ∧ -9223372036854775808 ≤ n ∧ wx = w)
  case atStart => exact ⟨0, 0, Nat.zero_le _, rfl, rfl, rfl, Lib.hid (by simp [digNum]), by omega, by omega, rfl⟩
  case round =>
    obtain ⟨k, n, hk, hgk, rfl, rfl, HN, hn0, hn1, rfl⟩ := hrel
    have HG := Lib.hid hgk
    clear hgk
    by_cases hlt : k < l.length
    · obtain ⟨c, hc⟩ : ∃ c, l[k]? = some c := ⟨_, List.getElem?_eq_getElem hlt⟩
      have hx := BS.at_ (n := 0) (cap := 0) hr hc
      obtain ⟨d1, d2⟩ := HD.out k c hc
      have hsn : digNum (l.take (k + 1)) = 10 * digNum (l.take k) + dval c := by rw [List.take_add_one, hc]; exact digNum_snoc _ _
      have HSN := Lib.hid hsn
      obtain ⟨q, hq⟩ : ∃ q : Int, (c.toNat : Int) = q := ⟨_, rfl⟩
      have hdv : (dval c : Int) = q - 48 := by unfold dval; omega
      have HDV := Lib.hid hdv
      rw [hq] at hx
      have hq1 : 48 ≤ q := by omega
      have hq2 : q ≤ 57 := by omega
      have htd : (-9223372036854775808 + (q - 48)).tdiv 10 = -((9223372036854775808 - (q - 48)) / 10) := by rw [tdiv10 _ (by omega)]; congr 2; omega
      have HTD := Lib.hid htd
      clear hsn hdv hq htd hc d1 d2
      by_cases hover : 10 * n - (q - 48) < -9223372036854775808
      · have HRET := Lib.hid (show r = none by
          rw [← HR0.out]
          have h1 := digNum_ge (l.take (k + 1)) (l.drop (k + 1))
          rw [List.take_append_drop] at h1
          have h2 := HSN.out
          have h3 := HN.out
          have h4 := HDV.out
          unfold numFit
          rw [if_neg (by simp), if_neg (by omega)])
        have hdec : decide (n < (-9223372036854775808 + (q - 48)).tdiv 10) = true := by rw [HTD.out, decide_eq_true_eq]; omega
        clear hover
        cases hbk : ((k : Int) == 0)
        all_goals
          go_wp2
          go_ret2
          rw [HRET.out]
          exact ⟨rfl, rfl⟩
      · have hover2 : -9223372036854775808 ≤ 10 * n - (q - 48) := by omega
        have hdec : decide (n < (-9223372036854775808 + (q - 48)).tdiv 10) = false := by rw [HTD.out, decide_eq_false_iff_not]; omega
        clear hover
        cases hbk : ((k : Int) == 0)
        all_goals
          go_wp2
          go_roundg (l.length - (k + 1))
          case measure => rw [HG.out]; omega
          case rel => exact ⟨k + 1, _, hlt, rfl, by go_num, rfl, Lib.hid (by rw [HSN.out]; have h3 := HN.out; have h4 := HDV.out; omega), by omega, hover2, rfl⟩
    · obtain rfl : k = l.length := by omega
      have hN := HN.out
      rw [List.take_length] at hN
      by_cases hmin : n = -9223372036854775808
      · have HRET := Lib.hid (show r = none by
          rw [← HR0.out]
          unfold numFit
          rw [if_neg (by simp), if_neg (by omega)])
        have hb1 : (n == -9223372036854775808) = true := by simp [hmin]
        clear hmin hN
        go_wp2
        go_ret2
        rw [HRET.out]
        exact ⟨rfl, rfl⟩
      · have HRET := Lib.hid (show r = some (-n) by
          rw [← HR0.out]
          unfold numFit
          rw [if_neg (by simp), if_pos (by omega)]
          congr 1
          omega)
        have hb1 : (n == -9223372036854775808) = false := by simpa using hmin
        have hn2 : -9223372036854775807 ≤ n := by omega
        clear hmin hN
        go_wp2
        go_ret2
        rw [HRET.out]
        exact ⟨rfl, rfl⟩
end Go.Proofs.YtalhoacancbldaaDoor
