import Derived.Test.YtgolomgmnanbpaaGreatDoorX08
import Derived.Deep.MidRow
import Derived.Test.YtgolomgmnanbpaaGreatDoorX07
import Derived.Test.YtgolomgmnanbpaaGreatDoorX06
import Derived.Deep.RegionHeld3
import Derived.Test.YtgolomgmnanbpaaGreatDoorX04
import Derived.Test.YtgolomgmnanbpaaGreatDoorX05
namespace Go.Proofs.YtgolomgmnanbpaaGreatDoor
set_option linter.unusedVariables false
set_option linter.unusedSimpArgs false
open Go.RowKit
attribute [local go_sem] run_index_arr run_part_agg run_part_one run_field_agg
mutual
/-- what came in: a statement all parts of which are of a size -/
def camS : SJ → Prop | .mk k s a b body els => iw k ∧ s.length ≤ 4194304 ∧ camE a ∧ camE b ∧ body.length ≤ 4194304 ∧ els.length ≤ 4194304 ∧ camSL body ∧ camSL els
def camSL : List SJ → Prop | [] => True | x :: r => camS x ∧ camSL r
end
theorem camSL_iff : ∀ {xs : List SJ}, camSL xs ↔ ∀ x ∈ xs, camS x
  | [] => by simp [camSL]
  | x :: r => by simp [camSL, camSL_iff (xs := r)]
theorem mayL_snoc {d : Nat} {l : List SJ} {x : SJ} : mayL d (l ++ [x]) = (mayL d l && mayS d x) := by rw [mayL_app]; simp [mayL]
theorem kid_cellsS {W : World} {F : Nat → Prop} {css : List (List Value)} {xs : List SJ} {A : Option Addr} (h : SRs W F css xs) (hr : RdF W F A css.flatten) {i : Nat} {k : Int} {s : List UInt8} {a b : EJ} {body els : List SJ} (hx : xs[i]? = some (.mk k s a b body els)) :
    ∃ (bl o : Nat) (ka kva nva : Int) (sva : ByteArray) (Ava : Option Addr) (nka cka : Nat) (Bva : Option Addr) (nya cya : Nat) (sa : ByteArray) (Ca : Option Addr) (nxa cxa : Nat)
      (kb kvb nvb : Int) (svb : ByteArray) (Avb : Option Addr) (nkb ckb : Nat) (Bvb : Option Addr) (nyb cyb : Nat) (sb : ByteArray) (Cb : Option Addr) (nxb cxb : Nat) (BA EA : Option Addr) (cb ce : Nat) (bss ess : List (List Value)),
      A = some ⟨bl, o, none⟩ ∧ bl < W.heap.size ∧ F bl ∧ ER W F [.int .i64 ka, .int .i64 kva, .int .i64 nva, .string sva, .slice Ava nka cka, .slice Bva nya cya, .string sa, .slice Ca nxa cxa] a ∧ ER W F [.int .i64 kb, .int .i64 kvb, .int .i64 nvb, .string svb, .slice Avb nkb ckb, .slice Bvb nyb cyb, .string sb, .slice Cb nxb cxb] b ∧
      (SRs W F bss body ∧ body.length ≤ cb ∧ RdF W F BA bss.flatten) ∧ (SRs W F ess els ∧ els.length ≤ ce ∧ RdF W F EA ess.flatten) ∧
      SR W F [.int .i64 k, .string ⟨s.toArray⟩, .int .i64 ka, .int .i64 kva, .int .i64 nva, .string sva, .slice Ava nka cka, .slice Bva nya cya, .string sa, .slice Ca nxa cxa, .int .i64 kb, .int .i64 kvb, .int .i64 nvb, .string svb, .slice Avb nkb ckb, .slice Bvb nyb cyb, .string sb, .slice Cb nxb cxb, .slice BA body.length cb, .slice EA els.length ce] (.mk k s a b body els) ∧
      ∀ (j : Nat) u, ([.int .i64 k, .string ⟨s.toArray⟩, .int .i64 ka, .int .i64 kva, .int .i64 nva, .string sva, .slice Ava nka cka, .slice Bva nya cya, .string sa, .slice Ca nxa cxa, .int .i64 kb, .int .i64 kvb, .int .i64 nvb, .string svb, .slice Avb nkb ckb, .slice Bvb nyb cyb, .string sb, .slice Cb nxb cxb, .slice BA body.length cb, .slice EA els.length ce] : List Value)[j]? = some u → W.cell? ⟨bl, o + (i * 20 + j), none⟩ = some u := by
  obtain ⟨bl, o, c, rfl, hb, hf, hc, hv, hz⟩ := h.cell (fun c x h => h.len) (by decide) hr hx
  have hv' := hv
  obtain ⟨acs, bcs, BA, EA, cb, ce, bss, ess, rfl, ha, hbb, ⟨g1, g2, g3, g4⟩, g5, g6, g7, g8⟩ := hv.out
  obtain ⟨ka, kva, nva, sva, Ava, nka, cka, Bva, nya, cya, sa, Ca, nxa, cxa, rfl⟩ := ha.form
  obtain ⟨kb, kvb, nvb, svb, Avb, nkb, ckb, Bvb, nyb, cyb, sb, Cb, nxb, cxb, rfl⟩ := hbb.form
  refine ⟨bl, o, ka, kva, nva, sva, Ava, nka, cka, Bva, nya, cya, sa, Ca, nxa, cxa, kb, kvb, nvb, svb, Avb, nkb, ckb, Bvb, nyb, cyb, sb, Cb, nxb, cxb, BA, EA, cb, ce, bss, ess, rfl, hb, hf, ha, hbb, ⟨g1, g2, g4⟩, ⟨g5, g6, g8⟩, hv', fun j u hu => hz j u ?_ hu⟩
  have := (List.getElem?_eq_some_iff.1 hu).1
  simpa using this
theorem wpList_store_new {P : Program} {ops : Array Oper} {rest : List Oper} {op : Oper} {a : Act} {w : World} {Q : Exit → Act → World → Prop} (hgd : op.guard = none) (ty : TypeId) (x y : Operand) (ho : op.op = .store ty x y)
    (old cells : Array Value) (hx : a.eval x = .pointer (some ⟨w.heap.size, 0, none⟩)) (hy : a.eval y = .agg cells)
    (hi : (P.info? ty).map (·.size) = some cells.size) (hs : old.size = cells.size) (h1 : cells.all (·.oneCell') = true)
    (h : wpList P ops Q rest (a.put op.dst undef) (w.alloc (.cells cells ty))) : wpList P ops Q (op :: rest) a (w.alloc (.cells old ty)) :=
  wpList_plain hgd fun _ hK => wp_store_new ty x y ho old cells hx hy hi hs h1 (hK _ _ h)
def MayP (b : Bool) (w : World) (e : Ending) (w' : World) : Prop := e = .returned (.bool b) ∧ Below w.heap.size w w'
def ForM (r : Nat) : Prop := ∀ (l : List SJ) (css : List (List Value)) (A : Option Addr) (n ca : Nat) (F : Nat → Prop) (w : World), GOE w → SRs w F css l → l.length = n → n ≤ ca → RdF w F A css.flatten → camSL l → n ≤ 4194304 →
  Calls Tryz.prog 70 #[.slice A n ca, .int .i64 (r : Int)] w (MayP (mayL r l) w)
set_option maxRecDepth 100000 in
set_option maxHeartbeats 8000000 in
theorem eMayS (r : Nat) (hr : r ≤ 12) (ih : r ≠ 0 → ForM (r - 1)) : ForM r := by
  intro l css A n ca F w hG hS hln hnc hR hC hn
  have HG := Lib.hid hG
  have HKD := Lib.hid (And.intro hS hR)
  have HNK := Lib.hid hln
  have HCL := Lib.hid (camSL_iff.1 hC)
  obtain ⟨R, hRr⟩ : ∃ R : Int, (r : Int) = R := ⟨_, rfl⟩
  have HRR := Lib.hid hRr
  obtain ⟨D, hD⟩ : ∃ D, mayL r l = D := ⟨_, rfl⟩
  have HDD := Lib.hid hD
  have hsub : IntKind.i64.wrap (R - 1) = R - 1 := IntWalk.i64_in _ (by omega)
  have HSUB := Lib.hid hsub
  rw [hRr, hD]
  clear hG hS hln hR hC hRr hD hsub
  go_enter Tryz.func70, Tryz.ntmps70
  go_wp2
  go_loopw [10] (fun s10 wr => ∃ i : Nat, i ≤ n ∧ s10 = .int .i64 (i : Int) ∧ Hid (Below w.heap.size w wr) ∧ Hid (mayL r (l.take i) = true)) (fun s10 _ => n - (intOf s10).toNat)
  case atStart => exact ⟨0, by omega, rfl, Lib.hid (Below.refl _ _), Lib.hid (by rw [List.take_zero, mayL])⟩
  case round =>
    obtain ⟨i, hi, rfl, HB, HM⟩ := hrel
    by_cases hin : i < n
    · obtain ⟨x, hx⟩ : ∃ x, l[i]? = some x := ⟨_, List.getElem?_eq_getElem (by rw [HNK.out]; exact hin)⟩
      have hxm := List.mem_of_getElem? hx
      have hcx := HCL.out x hxm
      have HTK := Lib.hid (show mayL r (l.take (i + 1)) = mayS r x by rw [List.take_add_one, hx]; show mayL r (l.take i ++ [x]) = _; rw [mayL_snoc, HM.out, Bool.true_and])
      have HXN := Lib.hid (show mayS r x = false → D = false from fun h0 => by
        rw [← HDD.out]
        cases hd : mayL r l with
        | false => rfl
        | true => have := mayL_iff.1 hd x hxm; rw [h0] at this; cases this)
      obtain ⟨k, s, a, b, body, els⟩ := x
      obtain ⟨bl, o, ka, kva, nva, sva, Ava, nka, cka, Bva, nya, cya, sa, Ca, nxa, cxa, kb, kvb, nvb, svb, Avb, nkb, ckb, Bvb, nyb, cyb, sb, Cb, nxb, cxb, BA, EA, cb, ce, bss, ess, rfl, hbl, _, hEA, hEB, ⟨hb1, hb2, hb3⟩, ⟨he1, he2, he3⟩, hSR, hz⟩ := kid_cellsS HKD.out.1 HKD.out.2 hx
      unfold camS at hcx
      obtain ⟨hik, hsl, hca, hcb, hbl4, hel4, hcbo, hcel⟩ := hcx
      obtain ⟨nb, hnb⟩ : ∃ q, body.length = q := ⟨_, rfl⟩
      obtain ⟨ne, hne⟩ : ∃ q, els.length = q := ⟨_, rfl⟩
      rw [hnb] at hb2 hbl4 hz
      rw [hne] at he2 hel4 hz
      obtain ⟨da, hda⟩ : ∃ d, deepE 12 a = d := ⟨_, rfl⟩
      obtain ⟨db, hdb⟩ : ∃ d, deepE 12 b = d := ⟨_, rfl⟩
      obtain ⟨bk, hbk⟩ : ∃ z, blankE b = z := ⟨_, rfl⟩
      obtain ⟨nm, hnm⟩ : ∃ z, nameOk s = z := ⟨_, rfl⟩
      obtain ⟨mb, hmb⟩ : ∃ z, mayL (r - 1) body = z := ⟨_, rfl⟩
      obtain ⟨me, hme⟩ : ∃ z, mayL (r - 1) els = z := ⟨_, rfl⟩
      have HDA := Lib.hid (fun (W : World) (h : Below w.heap.size w W) => eDeep 12 (by omega) a _ F W (HG.out.keep h) (hEA.bel h) hca)
      have HDB := Lib.hid (fun (W : World) (h : Below w.heap.size w W) => eDeep 12 (by omega) b _ F W (HG.out.keep h) (hEB.bel h) hcb)
      have HBK := Lib.hid (fun (W : World) (h : Below w.heap.size w W) => eBlank b _ F W (hEB.bel h) hcb)
      have HNM := Lib.hid (fun (W : World) (h : Below w.heap.size w W) => Name_any ⟨s.toArray⟩ W)
      have HMB := Lib.hid (fun (h0 : r ≠ 0) (W : World) (h : Below w.heap.size w W) => ih h0 body bss BA nb cb F W (HG.out.keep h) (RR.imp hb1 fun c x hc => hc.bel h) hnb hb2 (hb3.keep (KeepF.of_below h)) hcbo hbl4)
      have HME := Lib.hid (fun (h0 : r ≠ 0) (W : World) (h : Below w.heap.size w W) => ih h0 els ess EA ne ce F W (HG.out.keep h) (RR.imp he1 fun c x hc => hc.bel h) hne he2 (he3.keep (KeepF.of_below h)) hcel hel4)
      rw [show isName ⟨s.toArray⟩ = nm from hnm] at HNM
      rw [hbk] at HBK
      unfold DepP at HDA HDB
      rw [hda] at HDA
      rw [hdb] at HDB
      rw [hmb] at HMB
      rw [hme] at HME
      unfold MayP at HMB HME
      have HMS := Lib.hid (show mayS r (.mk k s a b body els) = (decide (r ≠ 0) && (decide (da ≠ 0) && (if k = 1 then decide (db ≠ 0) && decide (s = [] ∧ nb + ne = 0) else if k = 2 then bk && (decide (s = []) && (mb && me)) else if k = 3 then bk && (nm && (mb && decide (ne = 0))) else false))) by
        unfold mayS fitE; simp only [hda, hdb, hbk, hnm, hmb, hme, hnb, hne])
      obtain ⟨M, hM⟩ : ∃ M, mayS r (.mk k s a b body els) = M := ⟨_, rfl⟩
      rw [hM] at HMS HTK HXN
      have hlb : bl < wr.heap.size := Nat.lt_of_lt_of_le hbl HB.out.size
      have hz' := fun (j : Nat) u (hu : ([.int .i64 k, .string ⟨s.toArray⟩, .int .i64 ka, .int .i64 kva, .int .i64 nva, .string sva, .slice Ava nka cka, .slice Bva nya cya, .string sa, .slice Ca nxa cxa, .int .i64 kb, .int .i64 kvb, .int .i64 nvb, .string svb, .slice Avb nkb ckb, .slice Bvb nyb cyb, .string sb, .slice Cb nxb cxb, .slice BA nb cb, .slice EA ne ce] : List Value)[j]? = some u) => (HB.out.cell (p := ⟨bl, o + (i * 20 + j), none⟩) hbl).trans (hz j u hu)
      have HRG := Lib.hid (show wr.rangeAt bl (o + i * 20) [.int .i64 k, .string ⟨s.toArray⟩, .int .i64 ka, .int .i64 kva, .int .i64 nva, .string sva, .slice Ava nka cka, .slice Bva nya cya, .string sa, .slice Ca nxa cxa, .int .i64 kb, .int .i64 kvb, .int .i64 nvb, .string svb, .slice Avb nkb ckb, .slice Bvb nyb cyb, .string sb, .slice Cb nxb cxb, .slice BA nb cb, .slice EA ne ce] from fun j v hv => by rw [Nat.add_assoc]; exact hz' j v hv)
      clear hz hz' hSR hEA hEB hb1 hb2 hb3 he1 he2 he3 hca hcb hcbo hcel hnb hne hda hdb hbk hnm hmb hme hM hx hxm hbl
      have HH1 := Lib.hid ((Held.nil wr).push 69 #[.int .i64 k, .string ⟨s.toArray⟩, .int .i64 ka, .int .i64 kva, .int .i64 nva, .string sva, .slice Ava nka cka, .slice Bva nya cya, .string sa, .slice Ca nxa cxa, .int .i64 kb, .int .i64 kvb, .int .i64 nvb, .string svb, .slice Avb nkb ckb, .slice Bvb nyb cyb, .string sb, .slice Cb nxb cxb, .slice BA nb cb, .slice EA ne ce] (g := wr.heap.size) rfl)
      go_upto_region 3 with fail
      go_step
      go_step
      go_step
      go_step
      refine wpList_load_mid rfl 69 (.tmp 12) rfl bl (o + i * 20) rfl [.int .i64 k, .string ⟨s.toArray⟩, .int .i64 ka, .int .i64 kva, .int .i64 nva, .string sva, .slice Ava nka cka, .slice Bva nya cya, .string sa, .slice Ca nxa cxa, .int .i64 kb, .int .i64 kvb, .int .i64 nvb, .string svb, .slice Avb nkb ckb, .slice Bvb nyb cyb, .string sb, .slice Cb nxb cxb, .slice BA nb cb, .slice EA ne ce] _ HRG.out Tryz.underlying69 rfl (by kernel_rfl) ?_
      go_step
      go_step
      go_step
      refine wpList_store_new rfl 69 (.tmp 6) (.tmp 13) rfl _ _ rfl rfl (by kernel_rfl) (by kernel_rfl) (by first | kernel_rfl | simp [Value.oneCell']) ?_
      obtain ⟨c0, f0, l0⟩ := HH1.out.b0.rules
      by_cases hr0 : r = 0
      · have hR0 : ¬ (0 : Int) < R := by have := HRR.out; omega
        have HR0 := Lib.hid hr0
        clear hr0
        go_upto_block 2 with fail
        go_cut [7] (fun s7 wx => s7 = .bool M ∧ Hid (Below w.heap.size w wx))
        case first =>
          by_cases hk1 : k = 1
          · have ek1 : (k == 1) = true := by simp [hk1]
            have HK1 := Lib.hid hk1
            clear hk1
            go_wp2
            go_meet
            case rel => exact ⟨by rw [HMS.out]; simp [HR0.out], Lib.hid (HB.out.trans (HH1.out.1.mono HB.out.size))⟩
          · have ek1 : (k == 1) = false := by simp [hk1]
            have HK1 := Lib.hid hk1
            clear hk1
            by_cases hk2 : k = 2
            · have ek2 : (k == 2) = true := by simp [hk2]
              have HK2 := Lib.hid hk2
              clear hk2
              go_wp2
              go_meet
              case rel => exact ⟨by rw [HMS.out]; simp [HR0.out], Lib.hid (HB.out.trans (HH1.out.1.mono HB.out.size))⟩
            · have ek2 : (k == 2) = false := by simp [hk2]
              have HK2 := Lib.hid hk2
              clear hk2
              by_cases hk3 : k = 3
              · have ek3 : (k == 3) = true := by simp [hk3]
                have HK3 := Lib.hid hk3
                clear hk3
                go_wp2
                go_meet
                case rel => exact ⟨by rw [HMS.out]; simp [HR0.out], Lib.hid (HB.out.trans (HH1.out.1.mono HB.out.size))⟩
              · have ek3 : (k == 3) = false := by simp [hk3]
                have HK3 := Lib.hid hk3
                clear hk3
                go_wp2
                go_meet
                case rel => exact ⟨by rw [HMS.out]; simp [HR0.out], Lib.hid (HB.out.trans (HH1.out.1.mono HB.out.size))⟩
        case rest =>
          obtain ⟨rfl, HBX⟩ := hcut
          cases M
          · have HD0 := Lib.hid (HXN.out rfl)
            go_wp2
            go_ret
            exact ⟨by rw [HD0.out]; rfl, HBX.out⟩
          · go_wp2
            go_roundw
            case rel => exact ⟨i + 1, by omega, by go_num, HBX, HTK⟩
            case measure => simp [intOf]; omega
      · have hR0 : (0 : Int) < R := by have := HRR.out; omega
        have HR0 := Lib.hid hr0
        have hs1 := HSUB.out
        have hs2 : ((r - 1 : Nat) : Int) = R - 1 := by have := HRR.out; omega
        rw [hs2] at HMB HME
        clear hr0 hs2
        go_wp2_with fail
        refine (HDA.out _ (HB.out.trans (HH1.out.1.mono HB.out.size))).mono ?_
        rintro e w10 ⟨rfl, hq10⟩
        have HH10 := Lib.hid (HH1.out.keep hq10)
        clear hq10 c0 f0 l0
        obtain ⟨c0, f0, l0⟩ := HH10.out.b0.rules
        by_cases hda0 : da = 0
        · have e0 : ¬ (0 : Int) < (da : Int) := by omega
          have HDA0 := Lib.hid hda0
          clear hda0
          go_upto_block 2 with fail
          go_cut [7] (fun s7 wx => s7 = .bool M ∧ Hid (Below w.heap.size w wx))
          case first =>
            by_cases hk1 : k = 1
            · have ek1 : (k == 1) = true := by simp [hk1]
              have HK1 := Lib.hid hk1
              clear hk1
              go_wp2
              go_meet
              case rel => exact ⟨by rw [HMS.out]; simp [HDA0.out], Lib.hid (HB.out.trans (HH10.out.1.mono HB.out.size))⟩
            · have ek1 : (k == 1) = false := by simp [hk1]
              have HK1 := Lib.hid hk1
              clear hk1
              by_cases hk2 : k = 2
              · have ek2 : (k == 2) = true := by simp [hk2]
                have HK2 := Lib.hid hk2
                clear hk2
                go_wp2
                go_meet
                case rel => exact ⟨by rw [HMS.out]; simp [HDA0.out], Lib.hid (HB.out.trans (HH10.out.1.mono HB.out.size))⟩
              · have ek2 : (k == 2) = false := by simp [hk2]
                have HK2 := Lib.hid hk2
                clear hk2
                by_cases hk3 : k = 3
                · have ek3 : (k == 3) = true := by simp [hk3]
                  have HK3 := Lib.hid hk3
                  clear hk3
                  go_wp2
                  go_meet
                  case rel => exact ⟨by rw [HMS.out]; simp [HDA0.out], Lib.hid (HB.out.trans (HH10.out.1.mono HB.out.size))⟩
                · have ek3 : (k == 3) = false := by simp [hk3]
                  have HK3 := Lib.hid hk3
                  clear hk3
                  go_wp2
                  go_meet
                  case rel => exact ⟨by rw [HMS.out]; simp [HDA0.out], Lib.hid (HB.out.trans (HH10.out.1.mono HB.out.size))⟩
          case rest =>
            obtain ⟨rfl, HBX⟩ := hcut
            cases M
            · have HD0 := Lib.hid (HXN.out rfl)
              go_wp2
              go_ret
              exact ⟨by rw [HD0.out]; rfl, HBX.out⟩
            · go_wp2
              go_roundw
              case rel => exact ⟨i + 1, by omega, by go_num, HBX, HTK⟩
              case measure => simp [intOf]; omega
        · have e0 : (0 : Int) < (da : Int) := by omega
          have HDA0 := Lib.hid hda0
          clear hda0
          go_upto_block 2 with fail
          go_cut [7] (fun s7 wx => s7 = .bool M ∧ Hid (Below w.heap.size w wx))
          case first =>
            by_cases hk1 : k = 1
            · have ek1 : (k == 1) = true := by simp [hk1]
              have HK1 := Lib.hid hk1
              clear hk1
              go_wp2_with fail
              refine (HDB.out _ (HB.out.trans (HH10.out.1.mono HB.out.size))).mono ?_
              rintro e w11 ⟨rfl, hq11⟩
              have HH11 := Lib.hid (HH10.out.keep hq11)
              clear hq11 c0 f0 l0
              obtain ⟨c0, f0, l0⟩ := HH11.out.b0.rules
              by_cases hdb0 : db = 0
              · have e0 : ¬ (0 : Int) < (db : Int) := by omega
                have HDB0 := Lib.hid hdb0
                clear hdb0
                go_wp2
                go_meet
                case rel => exact ⟨by rw [HMS.out]; simp [HDA0.out, HR0.out, HK1.out, HDB0.out], Lib.hid (HB.out.trans (HH11.out.1.mono HB.out.size))⟩
              · have e0 : (0 : Int) < (db : Int) := by omega
                have HDB0 := Lib.hid hdb0
                clear hdb0
                by_cases hs : s = []
                rotate_left
                · go_wp2
                  go_meet
                  case rel => exact ⟨by rw [HMS.out]; simp [HDA0.out, HR0.out, HK1.out, HDB0.out, hs], Lib.hid (HB.out.trans (HH11.out.1.mono HB.out.size))⟩
                · subst hs
                  by_cases hnz : nb + ne = 0
                  · have enz : ((nb : Int) + ne == 0) = true := by rw [beq_iff_eq]; omega
                    have HNz := Lib.hid hnz
                    clear hnz
                    go_wp2
                    go_meet
                    case rel => exact ⟨by rw [HMS.out]; have hz9 := HNz.out; simp [HDA0.out, HR0.out, HK1.out, HDB0.out]; omega, Lib.hid (HB.out.trans (HH11.out.1.mono HB.out.size))⟩
                  · have enz : ((nb : Int) + ne == 0) = false := by rw [beq_eq_false_iff_ne]; omega
                    have HNz := Lib.hid hnz
                    clear hnz
                    go_wp2
                    go_meet
                    case rel => exact ⟨by rw [HMS.out]; have hz9 := HNz.out; simp [HDA0.out, HR0.out, HK1.out, HDB0.out]; omega, Lib.hid (HB.out.trans (HH11.out.1.mono HB.out.size))⟩
            · have ek1 : (k == 1) = false := by simp [hk1]
              have HK1 := Lib.hid hk1
              clear hk1
              by_cases hk2 : k = 2
              · have ek2 : (k == 2) = true := by simp [hk2]
                have HK2 := Lib.hid hk2
                clear hk2
                go_wp2_with fail
                refine (HBK.out _ (HB.out.trans (HH10.out.1.mono HB.out.size))).mono ?_
                rintro e w12 ⟨rfl, hq12⟩
                have HH12 := Lib.hid (HH10.out.keep hq12)
                clear hq12 c0 f0 l0
                obtain ⟨c0, f0, l0⟩ := HH12.out.b0.rules
                cases bk
                · go_wp2
                  go_meet
                  case rel => exact ⟨by rw [HMS.out]; simp [HDA0.out, HR0.out, HK1.out, HK2.out], Lib.hid (HB.out.trans (HH12.out.1.mono HB.out.size))⟩
                · by_cases hs : s = []
                  rotate_left
                  · go_wp2
                    go_meet
                    case rel => exact ⟨by rw [HMS.out]; simp [HDA0.out, HR0.out, HK1.out, HK2.out, hs], Lib.hid (HB.out.trans (HH12.out.1.mono HB.out.size))⟩
                  · subst hs
                    go_wp2_with fail
                    refine (HMB.out HR0.out _ (HB.out.trans (HH12.out.1.mono HB.out.size))).mono ?_
                    rintro e w13 ⟨rfl, hq13⟩
                    have HH13 := Lib.hid (HH12.out.keep hq13)
                    clear hq13 c0 f0 l0
                    obtain ⟨c0, f0, l0⟩ := HH13.out.b0.rules
                    cases mb
                    · go_wp2
                      go_meet
                      case rel => exact ⟨by rw [HMS.out]; simp [HDA0.out, HR0.out, HK1.out, HK2.out], Lib.hid (HB.out.trans (HH13.out.1.mono HB.out.size))⟩
                    · go_wp2_with fail
                      refine (HME.out HR0.out _ (HB.out.trans (HH13.out.1.mono HB.out.size))).mono ?_
                      rintro e w14 ⟨rfl, hq14⟩
                      have HH14 := Lib.hid (HH13.out.keep hq14)
                      clear hq14 c0 f0 l0
                      obtain ⟨c0, f0, l0⟩ := HH14.out.b0.rules
                      cases me
                      · go_wp2
                        go_meet
                        case rel => exact ⟨by rw [HMS.out]; simp [HDA0.out, HR0.out, HK1.out, HK2.out], Lib.hid (HB.out.trans (HH14.out.1.mono HB.out.size))⟩
                      · go_wp2
                        go_meet
                        case rel => exact ⟨by rw [HMS.out]; simp [HDA0.out, HR0.out, HK1.out, HK2.out], Lib.hid (HB.out.trans (HH14.out.1.mono HB.out.size))⟩
              · have ek2 : (k == 2) = false := by simp [hk2]
                have HK2 := Lib.hid hk2
                clear hk2
                by_cases hk3 : k = 3
                · have ek3 : (k == 3) = true := by simp [hk3]
                  have HK3 := Lib.hid hk3
                  clear hk3
                  go_wp2_with fail
                  refine (HBK.out _ (HB.out.trans (HH10.out.1.mono HB.out.size))).mono ?_
                  rintro e w15 ⟨rfl, hq15⟩
                  have HH15 := Lib.hid (HH10.out.keep hq15)
                  clear hq15 c0 f0 l0
                  obtain ⟨c0, f0, l0⟩ := HH15.out.b0.rules
                  cases bk
                  · go_wp2
                    go_meet
                    case rel => exact ⟨by rw [HMS.out]; simp [HDA0.out, HR0.out, HK1.out, HK2.out, HK3.out], Lib.hid (HB.out.trans (HH15.out.1.mono HB.out.size))⟩
                  · go_wp2_with fail
                    refine (HNM.out _ (HB.out.trans (HH15.out.1.mono HB.out.size))).mono ?_
                    rintro e w16 ⟨rfl, hq16⟩
                    have HH16 := Lib.hid (HH15.out.keep hq16)
                    clear hq16 c0 f0 l0
                    obtain ⟨c0, f0, l0⟩ := HH16.out.b0.rules
                    cases nm
                    · go_wp2
                      go_meet
                      case rel => exact ⟨by rw [HMS.out]; simp [HDA0.out, HR0.out, HK1.out, HK2.out, HK3.out], Lib.hid (HB.out.trans (HH16.out.1.mono HB.out.size))⟩
                    · go_wp2_with fail
                      refine (HMB.out HR0.out _ (HB.out.trans (HH16.out.1.mono HB.out.size))).mono ?_
                      rintro e w17 ⟨rfl, hq17⟩
                      have HH17 := Lib.hid (HH16.out.keep hq17)
                      clear hq17 c0 f0 l0
                      obtain ⟨c0, f0, l0⟩ := HH17.out.b0.rules
                      cases mb
                      · go_wp2
                        go_meet
                        case rel => exact ⟨by rw [HMS.out]; simp [HDA0.out, HR0.out, HK1.out, HK2.out, HK3.out], Lib.hid (HB.out.trans (HH17.out.1.mono HB.out.size))⟩
                      · by_cases hny : ne = 0
                        · have eny : ((ne : Int) == 0) = true := by rw [beq_iff_eq]; omega
                          have HNy := Lib.hid hny
                          clear hny
                          go_wp2
                          go_meet
                          case rel => exact ⟨by rw [HMS.out]; simp [HDA0.out, HR0.out, HK1.out, HK2.out, HK3.out, HNy.out], Lib.hid (HB.out.trans (HH17.out.1.mono HB.out.size))⟩
                        · have eny : ((ne : Int) == 0) = false := by rw [beq_eq_false_iff_ne]; omega
                          have HNy := Lib.hid hny
                          clear hny
                          go_wp2
                          go_meet
                          case rel => exact ⟨by rw [HMS.out]; simp [HDA0.out, HR0.out, HK1.out, HK2.out, HK3.out, HNy.out], Lib.hid (HB.out.trans (HH17.out.1.mono HB.out.size))⟩
                · have ek3 : (k == 3) = false := by simp [hk3]
                  have HK3 := Lib.hid hk3
                  clear hk3
                  go_wp2
                  go_meet
                  case rel => exact ⟨by rw [HMS.out]; simp [HDA0.out, HR0.out, HK1.out, HK2.out, HK3.out], Lib.hid (HB.out.trans (HH10.out.1.mono HB.out.size))⟩
          case rest =>
            obtain ⟨rfl, HBX⟩ := hcut
            cases M
            · have HD0 := Lib.hid (HXN.out rfl)
              go_wp2
              go_ret
              exact ⟨by rw [HD0.out]; rfl, HBX.out⟩
            · go_wp2
              go_roundw
              case rel => exact ⟨i + 1, by omega, by go_num, HBX, HTK⟩
              case measure => simp [intOf]; omega
    · obtain rfl : i = n := by omega
      have HF := Lib.hid (show D = true by
        have h := HM.out
        rw [List.take_of_length_le (Nat.le_of_eq HNK.out), HDD.out] at h
        exact h)
      go_wp2
      go_ret
      exact ⟨by rw [HF.out]; rfl, HB.out⟩
end Go.Proofs.YtgolomgmnanbpaaGreatDoor
namespace Go.Proofs.YtgolomgmnanbpaaGreatDoor
set_option linter.unusedVariables false
set_option linter.unusedSimpArgs false
open Go.RowKit
attribute [local go_sem] run_index_arr run_part_agg run_part_one run_field_agg
theorem eMay : ∀ r, r ≤ 12 → ForM r
  | 0, h => eMayS 0 h (fun h0 => absurd rfl h0)
  | r + 1, h => eMayS (r + 1) h (fun _ => eMay r (by omega))
def prgE (l : List SJ) : Int := if mayP l = true then 0 else 332
def PrgP (q : Int) (w : World) (e : Ending) (w' : World) : Prop := e = .returned (.int .i64 q) ∧ Below w.heap.size w w'
set_option maxRecDepth 100000 in
set_option maxHeartbeats 4000000 in
theorem eCheck (l : List SJ) (css : List (List Value)) (A : Option Addr) (n ca : Nat) (F : Nat → Prop) (w : World) (hG : GOE w) (hS : SRs w F css l) (hln : l.length = n) (hnc : n ≤ ca) (hR : RdF w F A css.flatten) (hC : camSL l) (hn : n ≤ 4194304) :
    Calls Tryz.prog 39 #[.agg #[.slice A n ca]] w (PrgP (prgE l) w) := by
  have HM := Lib.hid (fun (W : World) (h : Below w.heap.size w W) => eMay 12 (by omega) l css A n ca F W (hG.keep h) (RR.imp hS fun c x hc => hc.bel h) hln hnc (hR.keep (KeepF.of_below h)) hC hn)
  obtain ⟨b, hb⟩ : ∃ b, mayL 12 l = b := ⟨_, rfl⟩
  have HQ := Lib.hid (show prgE l = (if b = true then 0 else 332) by unfold prgE mayP; rw [hb])
  unfold MayP at HM
  rw [hb] at HM
  obtain ⟨q, hq⟩ : ∃ q, prgE l = q := ⟨_, rfl⟩
  rw [hq] at HQ ⊢
  clear hq
  have HH0 := Lib.hid ((Held.nil w).push 46 #[.slice A n ca] (g := w.heap.size) rfl)
  clear hG hS hln hnc hR hC hn hb
  go_enter Tryz.func39, Tryz.ntmps39
  go_wp2_with fail
  refine (HM.out _ HH0.out.1).mono ?_
  rintro e w1 ⟨rfl, hb1⟩
  have HH1 := Lib.hid (HH0.out.keep hb1)
  clear hb1
  cases b
  · go_wp2
    go_ret
    exact ⟨by rw [HQ.out]; rfl, HH1.out.1⟩
  · go_wp2
    go_ret
    exact ⟨by rw [HQ.out]; rfl, HH1.out.1⟩
end Go.Proofs.YtgolomgmnanbpaaGreatDoor
namespace Go.Proofs.YtgolomgmnanbpaaGreatDoor
set_option linter.unusedVariables false
set_option linter.unusedSimpArgs false
open Go.RowKit
attribute [local go_sem] run_index_arr run_part_agg run_part_one run_field_agg
theorem five_bel {B : Nat} {w W : World} (h : Below B w W) {g : Nat} (hg : B ≤ g) (a b c d e : Value) :
    Below B w (((((W.setCell ⟨g, 0, none⟩ a).setCell ⟨g, 1, none⟩ b).setCell ⟨g, 2, none⟩ c).setCell ⟨g, 3, none⟩ d).setCell ⟨g, 4, none⟩ e) :=
  ((((h.setCell (p := ⟨g, 0, none⟩) hg a).setCell (p := ⟨g, 1, none⟩) hg b).setCell (p := ⟨g, 2, none⟩) hg c).setCell (p := ⟨g, 3, none⟩) hg d).setCell (p := ⟨g, 4, none⟩) hg e
def zeroCs : Array Value := #[.int .i64 0, .int .i64 0, .string ⟨#[]⟩, .slice none 0 0, .slice none 0 0]
def WhoP (cs : Array Value) (n : Int) (w : World) (e : Ending) (w' : World) : Prop := e = .returned (.tuple #[.agg cs, .int .i64 n]) ∧ Below w.heap.size w w'
set_option maxRecDepth 100000 in
set_option maxHeartbeats 4000000 in
theorem vWhole_any (v : JV) (cs : List Value) (F : Nat → Prop) (w : World) (hG : GOK w) (hv : VR w F cs v) (hc : Came v) :
    Calls Tryz.prog 92 #[.agg cs.toArray] w (WhoP (if good v = true then cs.toArray else zeroCs) (if good v = true then 0 else 140) w) := by
  have HV := Lib.hid (fun (W : World) (h : Below w.heap.size w W) => hv.bel h)
  obtain ⟨k0, n0, s0, A0, na0, ca0, B0, nb0, cb0, rfl⟩ := hv.form
  have HG := Lib.hid hG
  have HC := Lib.hid hc
  have HH0 := Lib.hid (((Held.nil w).push 25 #[.int .i64 k0, .int .i64 n0, .string s0, .slice A0 na0 ca0, .slice B0 nb0 cb0] (g := w.heap.size) rfl).push 25 zeroCs (g := w.heap.size + 1) (by simp))
  clear hv hG hc
  unfold zeroCs at *
  by_cases hg : good v = true
  · have HK := Lib.hid (show chkJ v = 0 by unfold chkJ; rw [if_pos hg])
    rw [if_pos hg, if_pos hg]
    clear hg
    obtain ⟨c1, f1, l1⟩ := HH0.out.b1.rules
    go_enter Tryz.func92, Tryz.ntmps92
    go_wp2_with fail
    refine (vChk_is HK.out (HG.out.keep HH0.out.1) (HV.out _ HH0.out.1) HC.out).mono ?_
    rintro e w1 ⟨rfl, hb1⟩
    have HH1 := Lib.hid (HH0.out.keep hb1)
    clear hb1 c1 f1 l1 HH0
    obtain ⟨c1, f1, l1⟩ := HH1.out.b1.rules
    obtain ⟨c2, f2, l2⟩ := HH1.out.b0.rules
    go_wp2
    refine bodyPost_ret (v := .tuple #[.agg #[.int .i64 k0, .int .i64 n0, .string s0, .slice A0 na0 ca0, .slice B0 nb0 cb0], .int .i64 0]) (by simp only [results, Tryz.results92]; go_simp) rfl ?_
    exact ⟨rfl, five_bel HH1.out.1 (by omega) _ _ _ _ _⟩
  · have HK := Lib.hid (show chkJ v = 140 by unfold chkJ; rw [if_neg hg])
    rw [if_neg hg, if_neg hg]
    clear hg
    obtain ⟨c1, f1, l1⟩ := HH0.out.b1.rules
    go_enter Tryz.func92, Tryz.ntmps92
    go_wp2_with fail
    refine (vChk_is HK.out (HG.out.keep HH0.out.1) (HV.out _ HH0.out.1) HC.out).mono ?_
    rintro e w1 ⟨rfl, hb1⟩
    have HH1 := Lib.hid (HH0.out.keep hb1)
    clear hb1 c1 f1 l1 HH0
    obtain ⟨c2, f2, l2⟩ := HH1.out.b0.rules
    go_wp2
    refine bodyPost_ret (v := .tuple #[.agg #[.int .i64 0, .int .i64 0, .string ⟨#[]⟩, .slice none 0 0, .slice none 0 0], .int .i64 140]) (by simp only [results, Tryz.results92]; go_simp) rfl ?_
    exact ⟨rfl, five_bel HH1.out.1 (by omega) _ _ _ _ _⟩
theorem infoVal6 : (Tryz.prog.info? 25).map (fun i => (i.zero, i.size, i.bytes)) = some (some (.agg #[.int .i64 0, .int .i64 0, .string ⟨#[]⟩, .slice none 0 0, .slice none 0 0]), 5, 80) := by kernel_rfl
set_option maxRecDepth 100000 in
set_option maxHeartbeats 4000000 in
/-- slices.Clone of a row of values: the same cells in a row of one's own -/
theorem valClone_any (css : List (List Value)) (xs : List JV) (F : Nat → Prop) (A : Option Addr) (n cap : Nat) (w : World) (h1 : VRs w F css xs) (hn : xs.length = n) (hr : RdF w F A css.flatten) (hl : n ≤ 4194304) :
    Calls Tryz.prog 167 #[.slice A n cap] w (fun e w' => ∃ v, e = .returned v ∧ w'.ownsRow w.heap.size 25 5 v n css.flatten ∧ Below w.heap.size w w') := by
  obtain ⟨i0, hi, hz0, hz1, hz2⟩ := info_parts infoVal6
  have hnil := fun (A : Option Addr) (n c : Nat) (w : World) => Lib.run_eql_slice_nil (P := Tryz.prog) (w := w) 22 25 A n c 0 0 Tryz.underlying22
  have hfl : css.flatten.length = n * 5 := by rw [h1.flat, hn]
  have hone := h1.one
  have hrd : Rd w A css.flatten := fun hne => by
    obtain ⟨b, o, e, hb, _, hc⟩ := hr hne
    exact ⟨b, o, e, hb, hc⟩
  rcases A with _ | ad
  · have hts : css.flatten = [] := by
      cases hcf : css.flatten with
      | nil => rfl
      | cons x r =>
        obtain ⟨b, o, e, _⟩ := hr (by rw [hcf]; simp)
        cases e
    rw [hts] at hfl ⊢
    obtain rfl : n = 0 := by simp at hfl; omega
    clear h1 hr hone hrd hts hfl hn
    go_enter Tryz.func167, Tryz.ntmps167
    go_wp2
    go_ret
    exact ⟨_, rfl, World.ownsRow_nil _ _ _ _, Below.refl _ _⟩
  · have HR := Lib.hid hrd
    clear h1 hr hn
    generalize css.flatten = L at hfl hone hrd HR ⊢
    clear hrd
    go_enter Tryz.func167, Tryz.ntmps167
    go_wp2_with (at_builtin; refine wpList_append_rd _ rfl _ _ 22 rfl w.heap.size 25 i0 _ 5 80 Tryz.underlying22 hi hz0 hz1 hz2 rfl (by decide) _ 0 [] rfl (World.ownsRow_made w #[] 0 (Nat.le_refl _) (by decide) rfl) (some ad) n cap (by intro h; cases h) L rfl hfl (HR.out.alloc _) hone (by unfold maxLen; omega) (by omega) (by simp) ?_; intro v' w1 hown hgr _)
    go_ret
    rw [Nat.zero_add, List.nil_append] at hown
    exact ⟨_, rfl, hown, ((Below.refl _ w).alloc (Nat.le_refl _) _).grown hgr (by simp) (fun k e => by cases e; exact Nat.le_refl _)⟩
end Go.Proofs.YtgolomgmnanbpaaGreatDoor
namespace Go.Proofs.YtgolomgmnanbpaaGreatDoor
set_option linter.unusedVariables false
set_option linter.unusedSimpArgs false
open Go.RowKit
attribute [local go_sem] run_index_arr run_part_agg run_part_one run_field_agg
theorem vr_list {W : World} {F : Nat → Prop} {css : List (List Value)} {xs : List JV} {n cap : Nat} {A : Option Addr} (h1 : VRs W F css xs) (hn : xs.length = n) (hnc : n ≤ cap) (hA : A = none → cap = 0) (hr : RdF W F A css.flatten) :
    VR W F [.int .i64 5, .int .i64 0, .string ⟨#[]⟩, .slice A n cap, .slice none 0 0] (.mk 5 0 [] xs []) := by
  exact VR.into 5 0 [] h1 (by rw [hn]; exact hnc) (Nat.le_refl 0) hA (fun _ => rfl) hr (fun hne => absurd rfl hne) hn.symm rfl
theorem own_parts {w : World} {base : Nat} {e : TypeId} {size n : Nat} {v : Value} {xs : List Value} (h : w.ownsRow base e size v n xs) : ∃ A cap, v = .slice A n cap ∧ n ≤ cap ∧ (A = none → cap = 0) ∧ RdF w (fun b => base ≤ b) A xs := by
  obtain ⟨A, cap, e1, h1, h2⟩ := Rd.of_own h
  refine ⟨A, cap, e1, h1, ?_, fun hne => ?_⟩
  rotate_left
  · obtain ⟨b, o, e2, hb, hc⟩ := h2 hne
    exact ⟨b, o, e2, hb, (h.lt b (by rw [e1, e2]; rfl)).1, hc⟩
  rintro rfl
  rcases h.2 with ⟨e2, _⟩ | ⟨g, cap', cur, e2, _⟩
  · rw [e1] at e2; injection e2
  · rw [e1] at e2; injection e2 with e2; cases e2
end Go.Proofs.YtgolomgmnanbpaaGreatDoor
namespace Go.Proofs.YtgolomgmnanbpaaGreatDoor
set_option linter.unusedVariables false
set_option linter.unusedSimpArgs false
open Go.RowKit
attribute [local go_sem] run_index_arr run_part_agg run_part_one run_field_agg
def TexP (s : List UInt8) (w : World) (e : Ending) (w' : World) : Prop := ∃ cs : Array Value, e = .returned (.tuple #[.agg cs, .int .i64 (if good (.mk 4 0 s [] []) = true then 0 else 140)]) ∧
  (good (.mk 4 0 s [] []) = true → VR w' TT cs.toList (.mk 4 0 s [] [])) ∧ Below w.heap.size w w'
set_option maxRecDepth 100000 in
set_option maxHeartbeats 8000000 in
theorem vTextV_any (s : List UInt8) (w : World) (hG : GOK w) (hc : Came (.mk 4 0 s [] [])) : Calls Tryz.prog 59 #[.string ⟨s.toArray⟩] w (TexP s w) := by
  have HG := Lib.hid hG
  have HC := Lib.hid hc
  have HH0 := Lib.hid ((Held.nil w).push 25 zeroCs (g := w.heap.size) rfl)
  unfold zeroCs at HH0
  clear hG hc
  go_enter Tryz.func59, Tryz.ntmps59
  go_wp2_with fail
  refine (vWhole_any (.mk 4 0 s [] []) [.int .i64 4, .int .i64 0, .string ⟨s.toArray⟩, .slice none 0 0, .slice none 0 0] TT _ (HG.out.keep HH0.out.1) (VR.atom 4 0 s) HC.out).mono ?_
  rintro e w2 ⟨rfl, hb2⟩
  have HH2 := Lib.hid (HH0.out.keep hb2)
  clear hb2 HH0
  obtain ⟨c3, f3, l3⟩ := HH2.out.b0.rules
  by_cases hg : good (.mk 4 0 s [] []) = true
  · unfold TexP
    rw [if_pos hg, if_pos hg]
    go_wp2
    refine bodyPost_ret (v := .tuple #[.agg #[.int .i64 4, .int .i64 0, .string ⟨s.toArray⟩, .slice none 0 0, .slice none 0 0], .int .i64 0]) (by simp only [results, Tryz.results59]; go_simp) rfl ?_
    exact ⟨_, by rw [if_pos hg], fun _ => VR.atom 4 0 s, five_bel HH2.out.1 (Nat.le_refl _) _ _ _ _ _⟩
  · unfold TexP
    rw [if_neg hg, if_neg hg]
    unfold zeroCs
    go_wp2
    refine bodyPost_ret (v := .tuple #[.agg #[.int .i64 0, .int .i64 0, .string ⟨#[]⟩, .slice none 0 0, .slice none 0 0], .int .i64 140]) (by simp only [results, Tryz.results59]; go_simp) rfl ?_
    exact ⟨_, by rw [if_neg hg], fun h => absurd h hg, five_bel HH2.out.1 (Nat.le_refl _) _ _ _ _ _⟩
end Go.Proofs.YtgolomgmnanbpaaGreatDoor
namespace Go.Proofs.YtgolomgmnanbpaaGreatDoor
set_option linter.unusedVariables false
set_option linter.unusedSimpArgs false
open Go.RowKit
attribute [local go_sem] run_index_arr run_part_agg run_part_one run_field_agg
end Go.Proofs.YtgolomgmnanbpaaGreatDoor
namespace Go.Proofs.YtgolomgmnanbpaaGreatDoor
set_option linter.unusedVariables false
set_option linter.unusedSimpArgs false
open Go.RowKit
attribute [local go_sem] run_index_arr run_part_agg run_part_one run_field_agg
theorem kid_cellsG {W : World} {F : Nat → Prop} {css : List (List Value)} {xs : List JV} {A : Option Addr} (h : VRs W F css xs) (hr : RdF W F A css.flatten) {i : Nat} {x : JV} (hx : xs[i]? = some x) :
    ∃ (b o : Nat) (k n : Int) (s : ByteArray) (A' : Option Addr) (na ca : Nat) (B' : Option Addr) (nb cb : Nat), A = some ⟨b, o, none⟩ ∧ b < W.heap.size ∧ VR W F [.int .i64 k, .int .i64 n, .string s, .slice A' na ca, .slice B' nb cb] x ∧
      ∀ W', Below W.heap.size W W' → W'.cell? ⟨b, o + i * 5, none⟩ = some (.int .i64 k) ∧ W'.cell? ⟨b, o + i * 5 + 1, none⟩ = some (.int .i64 n) ∧ W'.cell? ⟨b, o + i * 5 + 2, none⟩ = some (.string s) ∧ W'.cell? ⟨b, o + i * 5 + 3, none⟩ = some (.slice A' na ca) ∧ W'.cell? ⟨b, o + i * 5 + 4, none⟩ = some (.slice B' nb cb) := by
  obtain ⟨b, o, c, rfl, hb, _, hv, hc⟩ := h.cell hr hx
  obtain ⟨k, n, s, A', na, ca, B', nb, cb, rfl⟩ := hv.form
  refine ⟨b, o, k, n, s, A', na, ca, B', nb, cb, rfl, hb, hv, fun W' hW => ?_⟩
  have z := fun (j : Nat) u (hj : j < 5) hu => (hW.cell (p := ⟨b, o + (i * 5 + j), none⟩) hb).trans (hc j u hj hu)
  exact ⟨z 0 _ (by decide) rfl, z 1 _ (by decide) rfl, z 2 _ (by decide) rfl, z 3 _ (by decide) rfl, z 4 _ (by decide) rfl⟩
end Go.Proofs.YtgolomgmnanbpaaGreatDoor
