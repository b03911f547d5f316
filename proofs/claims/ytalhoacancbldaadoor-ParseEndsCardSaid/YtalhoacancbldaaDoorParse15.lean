/- The walks of package parse: steps, goes. -/
import Derived.Test.YtalhoacancbldaaDoorParse13
namespace Go.Proofs.YtalhoacancbldaaDoor
set_option linter.unusedVariables false
set_option linter.unusedSimpArgs false
open Go.RowKit
attribute [local go_sem] run_index_arr run_part_agg run_part_one run_field_agg

theorem pKeyN_any (w W : World) (g : Nat) (A : Option Addr) (cap : Nat) (l : List UInt8) (p many s : Nat) (ov : Value) (E : List (List Value × List UInt8)) (stk : JStk)
    (hG : GOK w) (h : PGo w W g A cap l p many ov E stk) (hok : okG l s p many stk) (hne : stk ≠ []) (hcap : l.length ≤ cap) (hlen : l.length ≤ 1048576) :
    Calls Tryd.prog 101 #[.pointer (some ⟨g, 0, none⟩)] W (PPost w g A cap l (pKey l p many stk)) := by
  match stk, h, hok, hne with
  | (v, key) :: r, h, hok, _ =>
    have hkl : v.keys.length ≤ 65535 := by
      have h1 := (stkI_mem hok.hi (v, key) List.mem_cons_self)
      have h2 := hok.hm
      by_cases h6 : v.kind = 6
      · have h3 : v.keys.length = v.kids.length := h1.2.1 h6
        have h4 : v.kids.length ≤ many := h1.1
        omega
      · have h3 : v.keys = [] := h1.2.2 h6
        rw [h3]; simp
    exact pKey_any w W g A cap l p many many ov E v key r hG h hok.stk hkl hok.hp hcap hlen
def doC : Array Value := #[.func (.func 98) #[] #[], .func (.func 99) #[] #[], .func (.func 100) #[] #[], .func (.func 101) #[] #[], .func (.func 102) #[] #[], .func (.func 103) #[] #[]]
theorem doSteps_any (w : World) : Calls Tryd.prog 78 #[] w fun e w' => e = .returned (.agg doC) ∧ Below w.heap.size w w' := by
  go_enter Tryd.func78, Tryd.ntmps78
  go_wp2
  go_returns
  exact ⟨rfl, by go_grown⟩
theorem PSt.gb {w W : World} {g : Nat} {A : Option Addr} {cap : Nat} {l : List UInt8} {r : PRes} (h : PSt w W g A cap l r) : w.grownBy W (some g) := by
  cases r with
  | go s p m stk => obtain ⟨ov, E, h⟩ := h; exact h.pb.bel
  | done p v => obtain ⟨ov, m, c0, c1, c2, c3, c4, h, _⟩ := h; exact h.bel
  | fail p e => obtain ⟨ov, m, c0, c1, c2, c3, c4, h⟩ := h; exact h.bel
/-- it goes on no more -/
def isEnd : PRes → Prop
  | .go _ _ _ _ => False
  | _ => True
def meas (l : List UInt8) : PRes → Nat
  | .go _ p _ _ => l.length - p + 1
  | _ => 0
theorem meas_later {l : List UInt8} {s p m : Nat} {stk : JStk} (h : okG l s p m stk) : meas l (pStep l (.go s p m stk)) < meas l (.go s p m stk) := by
  have h1 := (step_ok h).2
  have h2 := h.hp
  cases hr : pStep l (.go s p m stk) with
  | go s' p' m' stk' =>
    have h4 := (step_ok h).1
    rw [hr] at h1 h4
    have h3 : p < p' := h1
    have h5 : p' ≤ l.length := okG.hp h4
    simp only [meas]; omega
  | fail _ _ => simp only [meas]; omega
  | done _ _ => simp only [meas]; omega
def GoesPost (W : World) (g : Nat) (A : Option Addr) (cap : Nat) (l : List UInt8) (p : Nat) (e : Ending) (W' : World) : Prop :=
  e = .returned (.tuple #[]) ∧ ∃ w2 r, Below W.heap.size W w2 ∧ PSt w2 W' g A cap l r ∧ Reach l (.go 0 p 0 []) r ∧ isEnd r ∧ okP l r
set_option maxRecDepth 100000 in
set_option maxHeartbeats 4000000 in
theorem pGoes_any (W : World) (g : Nat) (A : Option Addr) (cap : Nat) (l : List UInt8) (p : Nat) (hG : GOK W) (hne : (0 : Nat) ≠ g) (hb : Blk W g 82 (pCells A l.length cap p 0 zN zI zI zS zN zN 0))
    (hr : RdF W (fun b => b ≠ g) A (byteV l)) (hp : p ≤ l.length) (hcap : l.length ≤ cap) (hlen : l.length ≤ 1048576) :
    Calls Tryd.prog 51 #[.pointer (some ⟨g, 0, none⟩)] W (GoesPost W g A cap l p) := by
  have HS := Lib.hid (doSteps_any W)
  have HB := Lib.hid hb
  have HR := Lib.hid hr
  have HG := Lib.hid hG
  have hgl := hb.lt
  unfold doC at HS
  clear hb hr hG
  go_enter Tryd.func51, Tryd.ntmps51
  go_wp2
  go_step3
  go_wp2_with (go_at_call 78; refine HS.out.mono ?_; rintro e w1 ⟨rfl, hb1⟩)
  obtain ⟨w2, hw2⟩ : ∃ w2, w1.alloc (.cells doC 110) = w2 := ⟨_, rfl⟩
  have hbw2 : Below W.heap.size W w2 := by rw [← hw2]; exact hb1.alloc hb1.size _
  have hdo : Blk w2 w1.heap.size 110 doC := by rw [← hw2]; exact Blk.new _ _ _
  unfold doC at hw2
  rw [hw2]
  obtain ⟨B, hBe⟩ : ∃ B, w1.heap.size = B := ⟨_, rfl⟩
  rw [hBe] at hdo ⊢
  have hgB : B ≠ g := by have := hb1.size; omega
  have hG2 : GOK w2 := HG.out.keep hbw2
  have hpb : PB w2 w2 g A cap l p 0 zN zI zI zS zN zN 0 := ⟨gb_refl _ _, Nat.lt_of_lt_of_le hgl hbw2.size, hne, HR.out.keep (KeepF.of_below hbw2), HB.out.keep hbw2⟩
  have hpg : PGo w2 w2 g A cap l p 0 zN [] [] := ⟨hpb, World.ownsRow_nil _ _ _ _, trivial⟩
  have HPG := Lib.hid hpg
  have HDO := Lib.hid hdo
  have HG2 := Lib.hid hG2
  have HBW := Lib.hid hbw2
  clear hw2 hbw2 hdo hBe hG2 hpb hpg hb1
  go_step3
  go_wp2
  go_loopg [2] (l.length - p + 1) (fun gk s2 wr => ∃ r, s2 = .int .i64 (codeP r) ∧ gk = meas l r ∧ Hid (PSt w2 wr g A cap l r ∧ okP l r ∧ Reach l (.go 0 p 0 []) r) ∧ w2.grownBy wr (some g))
  case atStart => exact ⟨.go 0 p 0 [], rfl, rfl, Lib.hid ⟨⟨zN, [], HPG.out⟩, start_ok hp, Reach.refl _⟩, gb_refl _ _⟩
  case round =>
    obtain ⟨r, rfl, hgk, HST, hgr⟩ := hrel
    have HGK := Lib.hid hgk
    have hdo := HDO.out.grown hgr (by simpa using hgB)
    obtain ⟨dc, df, dl⟩ := hdo.rules
    unfold doC at dc
    clear hgk
    cases r with
    | fail q e =>
      rw [show codeP (.fail q e) = 6 from rfl]
      go_wp2
      rw [Exit.noGoto_normal]
      go_end0
      exact ⟨rfl, w2, _, HBW.out, HST.out.1, HST.out.2.2, trivial, HST.out.2.1⟩
    | done q v =>
      rw [show codeP (.done q v) = 6 from rfl]
      go_wp2
      rw [Exit.noGoto_normal]
      go_end0
      exact ⟨rfl, w2, _, HBW.out, HST.out.1, HST.out.2.2, trivial, HST.out.2.1⟩
    | go s q m stk =>
      obtain ⟨hst, hok, hre⟩ := HST.out
      obtain ⟨ov, E, hpg⟩ := hst
      have hok : okG l s q m stk := hok
      have hm := meas_later hok
      have hso := (step_ok hok).1
      have hre2 : Reach l (.go 0 p 0 []) (pStep l (.go s q m stk)) := hre.trans (Reach.step (Reach.refl _))
      have h5 := hok.h5
      have hs := hok.hs
      match s, h5, hok, hpg, hm, hso, hre2, hs, HGK with
      | 0, h5, hok, hpg, hm, hso, hre2, hs, HGK =>
        have HC := Lib.hid (pValue_any w2 wr g A cap l q m 0 ov E stk HG2.out hpg hok hcap hlen)
        have HM := Lib.hid hm
        have HSO := Lib.hid hso
        have HRE := Lib.hid hre2
        rw [show codeP (.go 0 q m stk) = 0 from rfl]
        clear hok hpg hm hso hre2 hs hre HST
        go_wp2_with (go_at_call 98; refine HC.out.mono ?_; rintro e W3 ⟨rfl, hps⟩)
        go_roundg (meas l (pStep l (.go 0 q m stk)))
        case measure => rw [HGK.out]; exact HM.out
        case rel => exact ⟨_, rfl, rfl, Lib.hid ⟨hps, HSO.out, HRE.out⟩, PSt.gb hps⟩
      | 1, h5, hok, hpg, hm, hso, hre2, hs, HGK =>
        have HC := Lib.hid (pFirst_any w2 wr g A cap l q m 1 ov E stk HG2.out hpg hok (hs.resolve_left (by decide)) hcap hlen)
        have HM := Lib.hid hm
        have HSO := Lib.hid hso
        have HRE := Lib.hid hre2
        rw [show codeP (.go 1 q m stk) = 1 from rfl]
        clear hok hpg hm hso hre2 hs hre HST
        go_wp2_with (go_at_call 99; refine HC.out.mono ?_; rintro e W3 ⟨rfl, hps⟩)
        go_roundg (meas l (pStep l (.go 1 q m stk)))
        case measure => rw [HGK.out]; exact HM.out
        case rel => exact ⟨_, rfl, rfl, Lib.hid ⟨hps, HSO.out, HRE.out⟩, PSt.gb hps⟩
      | 2, h5, hok, hpg, hm, hso, hre2, hs, HGK =>
        have HC := Lib.hid (pFirstKey_any w2 wr g A cap l q m 2 ov E stk HG2.out hpg hok (hs.resolve_left (by decide)) hcap hlen)
        have HM := Lib.hid hm
        have HSO := Lib.hid hso
        have HRE := Lib.hid hre2
        rw [show codeP (.go 2 q m stk) = 2 from rfl]
        clear hok hpg hm hso hre2 hs hre HST
        go_wp2_with (go_at_call 100; refine HC.out.mono ?_; rintro e W3 ⟨rfl, hps⟩)
        go_roundg (meas l (pStep l (.go 2 q m stk)))
        case measure => rw [HGK.out]; exact HM.out
        case rel => exact ⟨_, rfl, rfl, Lib.hid ⟨hps, HSO.out, HRE.out⟩, PSt.gb hps⟩
      | 3, h5, hok, hpg, hm, hso, hre2, hs, HGK =>
        have HC := Lib.hid (pKeyN_any w2 wr g A cap l q m 3 ov E stk HG2.out hpg hok (hs.resolve_left (by decide)) hcap hlen)
        have HM := Lib.hid hm
        have HSO := Lib.hid hso
        have HRE := Lib.hid hre2
        rw [show codeP (.go 3 q m stk) = 3 from rfl]
        clear hok hpg hm hso hre2 hs hre HST
        go_wp2_with (go_at_call 101; refine HC.out.mono ?_; rintro e W3 ⟨rfl, hps⟩)
        go_roundg (meas l (pStep l (.go 3 q m stk)))
        case measure => rw [HGK.out]; exact HM.out
        case rel => exact ⟨_, rfl, rfl, Lib.hid ⟨hps, HSO.out, HRE.out⟩, PSt.gb hps⟩
      | 4, h5, hok, hpg, hm, hso, hre2, hs, HGK =>
        have HC := Lib.hid (pColon_any w2 wr g A cap l q m ov E stk hpg hok.hp hcap hlen)
        have HM := Lib.hid hm
        have HSO := Lib.hid hso
        have HRE := Lib.hid hre2
        rw [show codeP (.go 4 q m stk) = 4 from rfl]
        clear hok hpg hm hso hre2 hs hre HST
        go_wp2_with (go_at_call 102; refine HC.out.mono ?_; rintro e W3 ⟨rfl, hps⟩)
        go_roundg (meas l (pStep l (.go 4 q m stk)))
        case measure => rw [HGK.out]; exact HM.out
        case rel => exact ⟨_, rfl, rfl, Lib.hid ⟨hps, HSO.out, HRE.out⟩, PSt.gb hps⟩
      | 5, h5, hok, hpg, hm, hso, hre2, hs, HGK =>
        have HC := Lib.hid (pMore_any w2 wr g A cap l q m 5 ov E stk hpg hok (hs.resolve_left (by decide)) hcap hlen)
        have HM := Lib.hid hm
        have HSO := Lib.hid hso
        have HRE := Lib.hid hre2
        rw [show codeP (.go 5 q m stk) = 5 from rfl]
        clear hok hpg hm hso hre2 hs hre HST
        go_wp2_with (go_at_call 103; refine HC.out.mono ?_; rintro e W3 ⟨rfl, hps⟩)
        go_roundg (meas l (pStep l (.go 5 q m stk)))
        case measure => rw [HGK.out]; exact HM.out
        case rel => exact ⟨_, rfl, rfl, Lib.hid ⟨hps, HSO.out, HRE.out⟩, PSt.gb hps⟩
end Go.Proofs.YtalhoacancbldaaDoor
