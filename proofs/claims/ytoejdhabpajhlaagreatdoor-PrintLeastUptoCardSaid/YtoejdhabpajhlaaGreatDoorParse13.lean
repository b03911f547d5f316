import Derived.Test.YtoejdhabpajhlaaGreatDoorParse11
import Derived.Test.YtoejdhabpajhlaaGreatDoorJsonP
/- The walks of package parse: value at any time, first, firstKey, more. -/
namespace Go.Proofs.YtoejdhabpajhlaaGreatDoor
set_option linter.unusedVariables false
set_option linter.unusedSimpArgs false
open Go.RowKit
attribute [local go_sem] run_index_arr run_part_agg run_part_one run_field_agg

theorem okG.stk {l : List UInt8} {s p m : Nat} {stk : JStk} (h : okG l s p m stk) : stkOk m stk := ⟨h.hd, fun x hx => ⟨(stkI_mem h.hi x hx).1, (stkI_mem h.hi x hx).2.1⟩⟩
theorem pValue_any (w W : World) (g : Nat) (A : Option Addr) (cap : Nat) (l : List UInt8) (p many s : Nat) (ov : Value) (E : List (List Value × List UInt8)) (stk : JStk)
    (hG : GOK w) (h : PGo w W g A cap l p many ov E stk) (hok : okG l s p many stk) (hcap : l.length ≤ cap) (hlen : l.length ≤ 4194304) :
    Calls Tryz.prog 82 #[.pointer (some ⟨g, 0, none⟩)] W (PPost w g A cap l (pValue l p many stk)) := by
  have hp := hok.hp
  have hm := hok.hm
  have hs := hok.stk
  cases hc : l[skipB l p]? with
  | none => exact pValueNo_any w W g A cap l p many ov E stk h (fun c h => by rw [hc] at h; cases h) hp hcap hlen
  | some c =>
    by_cases hb : beginsB c = false
    · exact pValueNo_any w W g A cap l p many ov E stk h (fun c' h => by rw [hc] at h; injection h with h; rw [← h]; exact hb) hp hcap hlen
    · have hb : beginsB c = true := by simpa using hb
      by_cases h256 : many = 256
      · subst h256; exact pValueMany_any w W g A cap l p ov E stk c h hc hb hp hcap hlen
      · by_cases ho : c = 91 ∨ c = 123
        · by_cases h8 : stk.length = 8
          · exact pValueDeep_any w W g A cap l p many ov E stk c h hc ho (by omega) h8 hp hcap hlen
          · exact pValueOpen_any w W g A cap l p many ov E stk c h hc ho (by omega) (by have := hok.hd; omega) hp hcap hlen
        · by_cases h34 : c = 34
          · subst h34; exact pValueText_any w W g A cap l p many many ov E stk hG h hc (by omega) hs hm hp hcap hlen
          · by_cases hw : c = 110 ∨ c = 116 ∨ c = 102
            · exact pValueWord_any w W g A cap l p many many ov E stk c h hc hw (by omega) hs hm hp hcap hlen
            · refine pValueNum_any w W g A cap l p many many ov E stk c h hc ?_ (by omega) hs hm hp hcap hlen
              have e : ∀ k : UInt8, c.toNat = k.toNat → c = k := fun k hk => UInt8.toNat_inj.1 hk
              unfold beginsB at hb
              have h1 := of_decide_eq_true hb
              rcases h1 with h1 | h1 | h1 | h1 | h1 | h1 | h1 | h1
              · exact absurd (e 34 h1) h34
              · exact absurd (.inl (e 91 h1)) ho
              · exact absurd (.inr (e 123 h1)) ho
              · exact .inl h1
              · exact absurd (.inl (e 110 h1)) hw
              · exact absurd (.inr (.inl (e 116 h1))) hw
              · exact absurd (.inr (.inr (e 102 h1))) hw
              · exact .inr h1
set_option maxRecDepth 100000 in
set_option maxHeartbeats 4000000 in
theorem pFirst_any (w W : World) (g : Nat) (A : Option Addr) (cap : Nat) (l : List UInt8) (p many s : Nat) (ov : Value) (E : List (List Value × List UInt8)) (stk : JStk)
    (hG : GOK w) (h : PGo w W g A cap l p many ov E stk) (hok : okG l s p many stk) (hne : stk ≠ []) (hcap : l.length ≤ cap) (hlen : l.length ≤ 4194304) :
    Calls Tryz.prog 83 #[.pointer (some ⟨g, 0, none⟩)] W (PPost w g A cap l (pFirst l p many stk)) := by
  have hnx := pNext_any w W g A cap l p many 0 ov zI zI zS zN zN h.pb hok.hp hcap hlen
  have hsk := skipB_le hok.hp
  have hok2 : okG l s (skipB l p) many stk := ⟨hsk, hok.hm, hok.hd, hok.hi, hok.hs, hok.h5⟩
  have hspec : pFirst l p many stk = if l[skipB l p]? = some 93 then pClose l (skipB l p) many stk else pValue l (skipB l p) many stk := by unfold pFirst; rw [pValue_skip]
  obtain ⟨q, hq⟩ : ∃ q, skipB l p = q := ⟨_, rfl⟩
  rw [hq] at hnx hspec hok2 hsk
  have hval := fun W1 h1 => pValue_any w W1 g A cap l q many s ov E stk hG h1 hok2 hcap hlen
  match stk, h, hok2, hspec, hval, hne with
  | (v, key) :: r, h, hok2, hspec, hval, _ =>
  have hcl := fun W1 h1 => pClose_any w W1 g A cap l q many many ov E v key r h1 hok2.stk hok2.hm (by omega)
  have HNX := Lib.hid hnx
  have HSP := Lib.hid hspec
  have HH := Lib.hid h
  have HV := Lib.hid hval
  have HCL := Lib.hid hcl
  clear hspec hq h hval hcl hok hok2
  by_cases h93 : l[q]? = some 93
  · have hb : byteAt l q = 93 := by rw [byteAt, h93]; rfl
    rw [if_pos h93] at HSP
    rw [hb] at HNX
    clear h93 hb hnx
    go_enter Tryz.func83, Tryz.ntmps83
    go_wp2_with (first | (go_at_call 31; refine HNX.out.mono ?_; rintro e W1 ⟨rfl, hb1, hg1⟩) | (go_at_call 109; refine (HCL.out _ (HH.out.grown hb1 hg1)).mono ?_; rintro e W2 ⟨rfl, hps⟩))
    go_ret
    rw [HSP.out]
    exact ⟨rfl, hps⟩
  · have hb := (not_byte h93 (by decide)).1
    rw [if_neg h93] at HSP
    obtain ⟨bb, hbb⟩ : ∃ bb, byteAt l q = bb := ⟨_, rfl⟩
    rw [hbb] at HNX hb
    have hb' : (bb == 93) = false := hb
    clear h93 hb hnx hbb
    go_enter Tryz.func83, Tryz.ntmps83
    go_wp2_with (first | (go_at_call 31; refine HNX.out.mono ?_; rintro e W1 ⟨rfl, hb1, hg1⟩) | (go_at_call 82; refine (HV.out _ (HH.out.grown hb1 hg1)).mono ?_; rintro e W2 ⟨rfl, hps⟩))
    go_ret
    rw [HSP.out]
    exact ⟨rfl, hps⟩
set_option maxRecDepth 100000 in
set_option maxHeartbeats 4000000 in
theorem pFirstKey_any (w W : World) (g : Nat) (A : Option Addr) (cap : Nat) (l : List UInt8) (p many s : Nat) (ov : Value) (E : List (List Value × List UInt8)) (stk : JStk)
    (hG : GOK w) (h : PGo w W g A cap l p many ov E stk) (hok : okG l s p many stk) (hne : stk ≠ []) (hcap : l.length ≤ cap) (hlen : l.length ≤ 4194304) :
    Calls Tryz.prog 84 #[.pointer (some ⟨g, 0, none⟩)] W (PPost w g A cap l (pFirstKey l p many stk)) := by
  have hnx := pNext_any w W g A cap l p many 0 ov zI zI zS zN zN h.pb hok.hp hcap hlen
  have hsk := skipB_le hok.hp
  have hok2 : okG l s (skipB l p) many stk := ⟨hsk, hok.hm, hok.hd, hok.hi, hok.hs, hok.h5⟩
  match stk, h, hok2, hne with
  | (v, key) :: r, h, hok2, _ =>
  have hspec : pFirstKey l p many ((v, key) :: r) = if l[skipB l p]? = some 125 then pClose l (skipB l p) many ((v, key) :: r) else pKey l (skipB l p) many ((v, key) :: r) := by unfold pFirstKey; rw [pKey_skip]
  obtain ⟨q, hq⟩ : ∃ q, skipB l p = q := ⟨_, rfl⟩
  rw [hq] at hnx hspec hok2 hsk
  have hkl : v.keys.length ≤ 65535 := by
    have h1 := (stkI_mem hok2.hi (v, key) List.mem_cons_self)
    have h2 := hok2.hm
    by_cases h6 : v.kind = 6
    · have h3 : v.keys.length = v.kids.length := h1.2.1 h6
      have h4 : v.kids.length ≤ many := h1.1
      omega
    · have h3 : v.keys = [] := h1.2.2 h6
      rw [h3]; simp
  have hval := fun W1 h1 => pKey_any w W1 g A cap l q many many ov E v key r hG h1 hok2.stk hkl hsk hcap hlen
  have hcl := fun W1 h1 => pClose_any w W1 g A cap l q many many ov E v key r h1 hok2.stk hok2.hm (by omega)
  have HNX := Lib.hid hnx
  have HSP := Lib.hid hspec
  have HH := Lib.hid h
  have HV := Lib.hid hval
  have HCL := Lib.hid hcl
  clear hspec hq h hval hcl hok hok2 hkl
  by_cases h93 : l[q]? = some 125
  · have hb : byteAt l q = 125 := by rw [byteAt, h93]; rfl
    rw [if_pos h93] at HSP
    rw [hb] at HNX
    clear h93 hb hnx
    go_enter Tryz.func84, Tryz.ntmps84
    go_wp2_with (first | (go_at_call 31; refine HNX.out.mono ?_; rintro e W1 ⟨rfl, hb1, hg1⟩) | (go_at_call 109; refine (HCL.out _ (HH.out.grown hb1 hg1)).mono ?_; rintro e W2 ⟨rfl, hps⟩))
    go_ret
    rw [HSP.out]
    exact ⟨rfl, hps⟩
  · have hb := (not_byte h93 (by decide)).1
    rw [if_neg h93] at HSP
    obtain ⟨bb, hbb⟩ : ∃ bb, byteAt l q = bb := ⟨_, rfl⟩
    rw [hbb] at HNX hb
    have hb' : (bb == 125) = false := hb
    clear h93 hb hnx hbb
    go_enter Tryz.func84, Tryz.ntmps84
    go_wp2_with (first | (go_at_call 31; refine HNX.out.mono ?_; rintro e W1 ⟨rfl, hb1, hg1⟩) | (go_at_call 85; refine (HV.out _ (HH.out.grown hb1 hg1)).mono ?_; rintro e W2 ⟨rfl, hps⟩))
    go_ret
    rw [HSP.out]
    exact ⟨rfl, hps⟩
end Go.Proofs.YtoejdhabpajhlaaGreatDoor

/- The walks of package parse: more, steps, goes. -/
namespace Go.Proofs.YtoejdhabpajhlaaGreatDoor
set_option linter.unusedVariables false
set_option linter.unusedSimpArgs false
open Go.RowKit
attribute [local go_sem] run_index_arr run_part_agg run_part_one run_field_agg

set_option maxRecDepth 100000 in
set_option maxHeartbeats 4000000 in
theorem pMore_any (w W : World) (g : Nat) (A : Option Addr) (cap : Nat) (l : List UInt8) (p many s : Nat) (ov : Value) (E : List (List Value × List UInt8)) (stk : JStk)
    (h : PGo w W g A cap l p many ov E stk) (hok : okG l s p many stk) (hne : stk ≠ []) (hcap : l.length ≤ cap) (hlen : l.length ≤ 4194304) :
    Calls Tryz.prog 87 #[.pointer (some ⟨g, 0, none⟩)] W (PPost w g A cap l (pMore l p many stk)) := by
  have hnx := pNext_any w W g A cap l p many 0 ov zI zI zS zN zN h.pb hok.hp hcap hlen
  have hsk := skipB_le hok.hp
  have hok2 : okG l s (skipB l p) many stk := ⟨hsk, hok.hm, hok.hd, hok.hi, hok.hs, hok.h5⟩
  match stk, E, h, hok2, hne with
  | (v, key) :: r, [], h, hok2, _ => exact h.est.elim
  | (v, key) :: r, (ce, key') :: Er, h, hok2, _ =>
  obtain rfl : key' = key := h.est.2.1
  have hspec : pMore l p many ((v, key') :: r) = if l[skipB l p]? = some 44 then .go (if v.kind = 6 then 3 else 0) (skipB l p + 1) many ((v, key') :: r)
    else if l[skipB l p]? = some (if v.kind = 6 then 125 else 93) then pClose l (skipB l p) many ((v, key') :: r) else pFail l (skipB l p) 7 := by simp only [pMore]
  obtain ⟨q, hq⟩ : ∃ q, skipB l p = q := ⟨_, rfl⟩
  rw [hq] at hnx hspec hok2 hsk
  have hcl := fun W1 E h1 => pClose_any w W1 g A cap l q many many ov E v key' r h1 hok2.stk hok2.hm (by omega)
  have hadd : IntKind.i64.wrap ((q : Int) + 1) = (q : Int) + 1 := by rw [IntWalk.i64_in _ (by omega)]
  have hd8 : r.length + 1 ≤ 8 := by simpa using hok2.hd
  have HNX := Lib.hid hnx
  have HSP := Lib.hid hspec
  have HH := Lib.hid h
  have HCL := Lib.hid hcl
  obtain ⟨bb, hbb⟩ : ∃ bb, byteAt l q = bb := ⟨_, rfl⟩
  rw [hbb] at HNX
  have HBB := Lib.hid hbb
  clear hspec hq h hcl hok hok2 hnx hbb
  go_enter Tryz.func87, Tryz.ntmps87
  go_wp2_with (go_at_call 31; refine HNX.out.mono ?_; rintro e W1 ⟨rfl, hb1, hg1⟩)
  have hpg1 := HH.out.grown hb1 hg1
  have hown := hpg1.own
  obtain ⟨ob, capo, rfl, hob, hobl⟩ := hown.form (by simp)
  have hcapo := ownCap hown
  obtain ⟨hE1, hE5⟩ := ESt.len hpg1.est.2.2
  obtain ⟨kk, nn, ss, kids, keys⟩ := v
  obtain ⟨A1, B1, ca, cb, css, rfl, _⟩ := hpg1.est.1.out
  obtain ⟨d, hdd⟩ : ∃ d, r.length = d := ⟨_, rfl⟩
  obtain ⟨hcc, hf, hlt⟩ := hpg1.pb.blk.rules
  unfold pCells at hcc
  simp only [List.length_cons, hdd] at hown hcapo hcc
  rw [hdd] at hE1
  have q0 := own_cells hown hE1 hE5 0 (by omega)
  simp only [List.cons_append, List.nil_append, List.getElem?_cons_zero, List.getElem?_cons_succ, Nat.add_zero] at q0
  rw [hdd] at hd8
  have HPG := Lib.hid hpg1
  clear hpg1 hown hE1 hE5 hdd hb1 hg1
  go_quiet (fail)
  have HP2 := Lib.hid (HPG.out.drewN nq)
  obtain ⟨W2, hW2⟩ : ∃ W2, W1.drewN nq = W2 := ⟨_, rfl⟩
  rw [hW2] at HP2 ⊢
  obtain ⟨hc2, hf2, hl2⟩ := HP2.out.pb.blk.rules
  unfold pCells at hc2
  clear hW2 HPG hcc hf hlt q0
  have HCC := Lib.hid (HCL.out W2 _ HP2.out)
  by_cases h44 : l[q]? = some 44
  · have hb : bb = 44 := by rw [← HBB.out, byteAt, h44]; rfl
    subst hb
    have HSQ := Lib.hid (HSP.out.trans (if_pos h44))
    have hpg3 : PGo w (W2.setCell ⟨g, 0, none⟩ (.int .i64 ((q : Int) + 1))) g A cap l (q + 1) many _ _ _ := HP2.out.grown (by simpa using HP2.out.pb.set0 ((q : Int) + 1)) (gb_setCell (gb_refl _ _) _ _)
    have HP3 := Lib.hid hpg3
    clear h44 hpg3
    by_cases h6 : kk = 6
    · subst h6
      go_wp2
      go_ret
      rw [HSQ.out]
      exact ⟨rfl, _, _, HP3.out⟩
    · have hk6 : (kk == 6) = false := by simpa using h6
      go_wp2
      go_ret
      rw [HSQ.out]
      rw [show (if (JV.mk kk nn ss kids keys).kind = 6 then (3 : Nat) else 0) = 0 from if_neg h6]
      exact ⟨rfl, _, _, HP3.out⟩
  · have hb44 : (bb == 44) = false := by rw [← HBB.out]; exact (not_byte h44 (by decide)).1
    by_cases hcs : l[q]? = some (if kk = 6 then 125 else 93)
    · have HSQ := Lib.hid ((HSP.out.trans (if_neg h44)).trans (if_pos (show l[q]? = some (if (JV.mk kk nn ss kids keys).kind = 6 then 125 else 93) from hcs)))
      by_cases h6 : kk = 6
      · subst h6
        have hb : bb = 125 := by rw [← HBB.out, byteAt, hcs]; rfl
        subst hb
        clear h44 hcs
        go_wp2_with (go_at_call 109; refine HCC.out.mono ?_; rintro e W3 ⟨rfl, hps⟩)
        go_ret
        rw [HSQ.out]
        exact ⟨rfl, hps⟩
      · have hk6 : (kk == 6) = false := by simpa using h6
        rw [if_neg h6] at hcs
        have hb : bb = 93 := by rw [← HBB.out, byteAt, hcs]; rfl
        subst hb
        clear h44 hcs
        go_wp2_with (go_at_call 109; refine HCC.out.mono ?_; rintro e W3 ⟨rfl, hps⟩)
        go_ret
        rw [HSQ.out]
        exact ⟨rfl, hps⟩
    · have HSQ := Lib.hid ((HSP.out.trans (if_neg h44)).trans (if_neg (show ¬ l[q]? = some (if (JV.mk kk nn ss kids keys).kind = 6 then 125 else 93) from hcs)))
      have HFL := Lib.hid (pFails_any w W2 g A cap l q many 0 q 7 _ zI zI zS zN zN HP2.out.pb)
      by_cases h6 : kk = 6
      · subst h6
        have hb2 : (bb == 125) = false := by rw [← HBB.out]; exact (not_byte (c := 125) (by simpa using hcs) (by decide)).1
        clear h44 hcs
        go_wp2_with (go_at_call 32; refine HFL.out.mono ?_; rintro e W3 ⟨rfl, hp3, hg3⟩)
        go_ret
        rw [HSQ.out]
        exact ⟨rfl, _, _, _, _, _, _, _, hp3⟩
      · have hk6 : (kk == 6) = false := by simpa using h6
        rw [if_neg h6] at hcs
        have hb2 : (bb == 93) = false := by rw [← HBB.out]; exact (not_byte hcs (by decide)).1
        clear h44 hcs
        go_wp2_with (go_at_call 32; refine HFL.out.mono ?_; rintro e W3 ⟨rfl, hp3, hg3⟩)
        go_ret
        rw [HSQ.out]
        exact ⟨rfl, _, _, _, _, _, _, _, hp3⟩
end Go.Proofs.YtoejdhabpajhlaaGreatDoor

/- The walks of package parse: steps, goes. -/
namespace Go.Proofs.YtoejdhabpajhlaaGreatDoor
set_option linter.unusedVariables false
set_option linter.unusedSimpArgs false
open Go.RowKit
attribute [local go_sem] run_index_arr run_part_agg run_part_one run_field_agg

theorem pKeyN_any (w W : World) (g : Nat) (A : Option Addr) (cap : Nat) (l : List UInt8) (p many s : Nat) (ov : Value) (E : List (List Value × List UInt8)) (stk : JStk)
    (hG : GOK w) (h : PGo w W g A cap l p many ov E stk) (hok : okG l s p many stk) (hne : stk ≠ []) (hcap : l.length ≤ cap) (hlen : l.length ≤ 4194304) :
    Calls Tryz.prog 85 #[.pointer (some ⟨g, 0, none⟩)] W (PPost w g A cap l (pKey l p many stk)) := by
  match stk, h, hok, hne with
  | (v, key) :: r, h, hok, _ =>
    have hkl : v.keys.length ≤ 65535 := by
      have h1 := (stkI_mem hok.hi (v, key) List.mem_cons_self)
      have h2 := hok.hm
      by_cases h6 : v.kind = 6
      · have h3 : v.keys.length = v.kids.length := h1.2.1 h6
        have h4 : v.kids.length ≤ many := h1.1
        omega
      · have h3 : v.keys = [] := h1.2.2 h6
        rw [h3]; simp
    exact pKey_any w W g A cap l p many many ov E v key r hG h hok.stk hkl hok.hp hcap hlen
def doC : Array Value := #[.func (.func 82) #[] #[], .func (.func 83) #[] #[], .func (.func 84) #[] #[], .func (.func 85) #[] #[], .func (.func 86) #[] #[], .func (.func 87) #[] #[]]
theorem doSteps_any (w : World) : Calls Tryz.prog 63 #[] w fun e w' => e = .returned (.agg doC) ∧ Below w.heap.size w w' := by
  go_enter Tryz.func63, Tryz.ntmps63
  go_wp2
  go_returns
  exact ⟨rfl, by go_grown⟩
theorem PSt.gb {w W : World} {g : Nat} {A : Option Addr} {cap : Nat} {l : List UInt8} {r : PRes} (h : PSt w W g A cap l r) : w.grownBy W (some g) := by
  cases r with
  | go s p m stk => obtain ⟨ov, E, h⟩ := h; exact h.pb.bel
  | done p v => obtain ⟨ov, m, c0, c1, c2, c3, c4, h, _⟩ := h; exact h.bel
  | fail p e => obtain ⟨ov, m, c0, c1, c2, c3, c4, h⟩ := h; exact h.bel
/-- it goes on no more -/
def isEnd : PRes → Prop
  | .go _ _ _ _ => False
  | _ => True
def meas (l : List UInt8) : PRes → Nat
  | .go _ p _ _ => l.length - p + 1
  | _ => 0
theorem meas_later {l : List UInt8} {s p m : Nat} {stk : JStk} (h : okG l s p m stk) : meas l (pStep l (.go s p m stk)) < meas l (.go s p m stk) := by
  have h1 := (step_ok h).2
  have h2 := h.hp
  cases hr : pStep l (.go s p m stk) with
  | go s' p' m' stk' =>
    have h4 := (step_ok h).1
    rw [hr] at h1 h4
    have h3 : p < p' := h1
    have h5 : p' ≤ l.length := okG.hp h4
    simp only [meas]; omega
  | fail _ _ => simp only [meas]; omega
  | done _ _ => simp only [meas]; omega
def GoesPost (W : World) (g : Nat) (A : Option Addr) (cap : Nat) (l : List UInt8) (p : Nat) (e : Ending) (W' : World) : Prop :=
  e = .returned (.tuple #[]) ∧ ∃ w2 r, Below W.heap.size W w2 ∧ PSt w2 W' g A cap l r ∧ Reach l (.go 0 p 0 []) r ∧ isEnd r ∧ okP l r
set_option maxRecDepth 100000 in
set_option maxHeartbeats 4000000 in
theorem pGoes_any (W : World) (g : Nat) (A : Option Addr) (cap : Nat) (l : List UInt8) (p : Nat) (hG : GOK W) (hne : (1 : Nat) ≠ g) (hb : Blk W g 68 (pCells A l.length cap p 0 zN zI zI zS zN zN 0))
    (hr : RdF W (fun b => b ≠ g) A (byteV l)) (hp : p ≤ l.length) (hcap : l.length ≤ cap) (hlen : l.length ≤ 4194304) :
    Calls Tryz.prog 30 #[.pointer (some ⟨g, 0, none⟩)] W (GoesPost W g A cap l p) := by
  have HS := Lib.hid (doSteps_any W)
  have HB := Lib.hid hb
  have HR := Lib.hid hr
  have HG := Lib.hid hG
  have hgl := hb.lt
  unfold doC at HS
  clear hb hr hG
  go_enter Tryz.func30, Tryz.ntmps30
  go_wp2
  go_step3
  go_wp2_with (go_at_call 63; refine HS.out.mono ?_; rintro e w1 ⟨rfl, hb1⟩)
  obtain ⟨w2, hw2⟩ : ∃ w2, w1.alloc (.cells doC 91) = w2 := ⟨_, rfl⟩
  have hbw2 : Below W.heap.size W w2 := by rw [← hw2]; exact hb1.alloc hb1.size _
  have hdo : Blk w2 w1.heap.size 91 doC := by rw [← hw2]; exact Blk.new _ _ _
  unfold doC at hw2
  rw [hw2]
  obtain ⟨B, hBe⟩ : ∃ B, w1.heap.size = B := ⟨_, rfl⟩
  rw [hBe] at hdo ⊢
  have hgB : B ≠ g := by have := hb1.size; omega
  have hG2 : GOK w2 := HG.out.keep hbw2
  have hpb : PB w2 w2 g A cap l p 0 zN zI zI zS zN zN 0 := ⟨gb_refl _ _, Nat.lt_of_lt_of_le hgl hbw2.size, hne, HR.out.keep (KeepF.of_below hbw2), HB.out.keep hbw2⟩
  have hpg : PGo w2 w2 g A cap l p 0 zN [] [] := ⟨hpb, World.ownsRow_nil _ _ _ _, trivial⟩
  have HPG := Lib.hid hpg
  have HDO := Lib.hid hdo
  have HG2 := Lib.hid hG2
  have HBW := Lib.hid hbw2
  clear hw2 hbw2 hdo hBe hG2 hpb hpg hb1
  go_step3
  go_wp2
  go_loopg [2] (l.length - p + 1) (fun gk s2 wr => ∃ r, s2 = .int .i64 (codeP r) ∧ gk = meas l r ∧ Hid (PSt w2 wr g A cap l r ∧ okP l r ∧ Reach l (.go 0 p 0 []) r) ∧ w2.grownBy wr (some g))
  case atStart => exact ⟨.go 0 p 0 [], rfl, rfl, Lib.hid ⟨⟨zN, [], HPG.out⟩, start_ok hp, Reach.refl _⟩, gb_refl _ _⟩
  case round =>
    obtain ⟨r, rfl, hgk, HST, hgr⟩ := hrel
    have HGK := Lib.hid hgk
    have hdo := HDO.out.grown hgr (by simpa using hgB)
    obtain ⟨dc, df, dl⟩ := hdo.rules
    unfold doC at dc
    clear hgk
    cases r with
    | fail q e =>
      rw [show codeP (.fail q e) = 6 from rfl]
      go_wp2
      rw [Exit.noGoto_normal]
      go_end0
      exact ⟨rfl, w2, _, HBW.out, HST.out.1, HST.out.2.2, trivial, HST.out.2.1⟩
    | done q v =>
      rw [show codeP (.done q v) = 6 from rfl]
      go_wp2
      rw [Exit.noGoto_normal]
      go_end0
      exact ⟨rfl, w2, _, HBW.out, HST.out.1, HST.out.2.2, trivial, HST.out.2.1⟩
    | go s q m stk =>
      obtain ⟨hst, hok, hre⟩ := HST.out
      obtain ⟨ov, E, hpg⟩ := hst
      have hok : okG l s q m stk := hok
      have hm := meas_later hok
      have hso := (step_ok hok).1
      have hre2 : Reach l (.go 0 p 0 []) (pStep l (.go s q m stk)) := hre.trans (Reach.step (Reach.refl _))
      have h5 := hok.h5
      have hs := hok.hs
      match s, h5, hok, hpg, hm, hso, hre2, hs, HGK with
      | 0, h5, hok, hpg, hm, hso, hre2, hs, HGK =>
        have HC := Lib.hid (pValue_any w2 wr g A cap l q m 0 ov E stk HG2.out hpg hok hcap hlen)
        have HM := Lib.hid hm
        have HSO := Lib.hid hso
        have HRE := Lib.hid hre2
        rw [show codeP (.go 0 q m stk) = 0 from rfl]
        clear hok hpg hm hso hre2 hs hre HST
        go_wp2_with (go_at_call 82; refine HC.out.mono ?_; rintro e W3 ⟨rfl, hps⟩)
        go_roundg (meas l (pStep l (.go 0 q m stk)))
        case measure => rw [HGK.out]; exact HM.out
        case rel => exact ⟨_, rfl, rfl, Lib.hid ⟨hps, HSO.out, HRE.out⟩, PSt.gb hps⟩
      | 1, h5, hok, hpg, hm, hso, hre2, hs, HGK =>
        have HC := Lib.hid (pFirst_any w2 wr g A cap l q m 1 ov E stk HG2.out hpg hok (hs.resolve_left (by decide)) hcap hlen)
        have HM := Lib.hid hm
        have HSO := Lib.hid hso
        have HRE := Lib.hid hre2
        rw [show codeP (.go 1 q m stk) = 1 from rfl]
        clear hok hpg hm hso hre2 hs hre HST
        go_wp2_with (go_at_call 83; refine HC.out.mono ?_; rintro e W3 ⟨rfl, hps⟩)
        go_roundg (meas l (pStep l (.go 1 q m stk)))
        case measure => rw [HGK.out]; exact HM.out
        case rel => exact ⟨_, rfl, rfl, Lib.hid ⟨hps, HSO.out, HRE.out⟩, PSt.gb hps⟩
      | 2, h5, hok, hpg, hm, hso, hre2, hs, HGK =>
        have HC := Lib.hid (pFirstKey_any w2 wr g A cap l q m 2 ov E stk HG2.out hpg hok (hs.resolve_left (by decide)) hcap hlen)
        have HM := Lib.hid hm
        have HSO := Lib.hid hso
        have HRE := Lib.hid hre2
        rw [show codeP (.go 2 q m stk) = 2 from rfl]
        clear hok hpg hm hso hre2 hs hre HST
        go_wp2_with (go_at_call 84; refine HC.out.mono ?_; rintro e W3 ⟨rfl, hps⟩)
        go_roundg (meas l (pStep l (.go 2 q m stk)))
        case measure => rw [HGK.out]; exact HM.out
        case rel => exact ⟨_, rfl, rfl, Lib.hid ⟨hps, HSO.out, HRE.out⟩, PSt.gb hps⟩
      | 3, h5, hok, hpg, hm, hso, hre2, hs, HGK =>
        have HC := Lib.hid (pKeyN_any w2 wr g A cap l q m 3 ov E stk HG2.out hpg hok (hs.resolve_left (by decide)) hcap hlen)
        have HM := Lib.hid hm
        have HSO := Lib.hid hso
        have HRE := Lib.hid hre2
        rw [show codeP (.go 3 q m stk) = 3 from rfl]
        clear hok hpg hm hso hre2 hs hre HST
        go_wp2_with (go_at_call 85; refine HC.out.mono ?_; rintro e W3 ⟨rfl, hps⟩)
        go_roundg (meas l (pStep l (.go 3 q m stk)))
        case measure => rw [HGK.out]; exact HM.out
        case rel => exact ⟨_, rfl, rfl, Lib.hid ⟨hps, HSO.out, HRE.out⟩, PSt.gb hps⟩
      | 4, h5, hok, hpg, hm, hso, hre2, hs, HGK =>
        have HC := Lib.hid (pColon_any w2 wr g A cap l q m ov E stk hpg hok.hp hcap hlen)
        have HM := Lib.hid hm
        have HSO := Lib.hid hso
        have HRE := Lib.hid hre2
        rw [show codeP (.go 4 q m stk) = 4 from rfl]
        clear hok hpg hm hso hre2 hs hre HST
        go_wp2_with (go_at_call 86; refine HC.out.mono ?_; rintro e W3 ⟨rfl, hps⟩)
        go_roundg (meas l (pStep l (.go 4 q m stk)))
        case measure => rw [HGK.out]; exact HM.out
        case rel => exact ⟨_, rfl, rfl, Lib.hid ⟨hps, HSO.out, HRE.out⟩, PSt.gb hps⟩
      | 5, h5, hok, hpg, hm, hso, hre2, hs, HGK =>
        have HC := Lib.hid (pMore_any w2 wr g A cap l q m 5 ov E stk hpg hok (hs.resolve_left (by decide)) hcap hlen)
        have HM := Lib.hid hm
        have HSO := Lib.hid hso
        have HRE := Lib.hid hre2
        rw [show codeP (.go 5 q m stk) = 5 from rfl]
        clear hok hpg hm hso hre2 hs hre HST
        go_wp2_with (go_at_call 87; refine HC.out.mono ?_; rintro e W3 ⟨rfl, hps⟩)
        go_roundg (meas l (pStep l (.go 5 q m stk)))
        case measure => rw [HGK.out]; exact HM.out
        case rel => exact ⟨_, rfl, rfl, Lib.hid ⟨hps, HSO.out, HRE.out⟩, PSt.gb hps⟩
end Go.Proofs.YtoejdhabpajhlaaGreatDoor
