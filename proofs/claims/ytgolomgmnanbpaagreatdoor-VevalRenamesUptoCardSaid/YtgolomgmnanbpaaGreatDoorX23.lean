import Derived.Test.YtgolomgmnanbpaaGreatDoorX09
import Derived.Test.YtgolomgmnanbpaaGreatDoorX22
import Derived.Test.YtgolomgmnanbpaaGreatDoorX14
import Derived.Deep.RegionHeld3
import Derived.Test.YtgolomgmnanbpaaGreatDoorX11
namespace Go.Proofs.YtgolomgmnanbpaaGreatDoor
set_option linter.unusedVariables false
set_option linter.unusedSimpArgs false
open Go.RowKit
attribute [local go_sem] run_index_arr run_part_agg run_part_one run_field_agg
def plainN (q : Nat) : Bool := decide (97 ≤ q ∧ q ≤ 122 ∨ 48 ≤ q ∧ q ≤ 57 ∨ q = 45)
def idOk (l : List UInt8) : Bool := decide (1 ≤ l.length ∧ l.length ≤ 24) && l.all fun c => plainN c.toNat
theorem plain_any (q : Nat) (w : World) : Calls Tryz.prog 91 #[.int .u8 q] w fun e w' => e = .returned (.bool (plainN q)) ∧ w = w' := by
  unfold plainN
  go_enter Tryz.func91, Tryz.ntmps91
  go_wp2
  all_goals
    go_ret
    exact ⟨ret_bool (by rw [Bool.eq_iff_iff]; simp; try omega), rfl⟩
theorem index_strI {s : List UInt8} {i : Nat} {a : UInt8} (ha : s[i]? = some a) (W : World) : (Instr.index 9 (.string ⟨s.toArray⟩) (.int .i64 (i : Int))).run Tryz.prog W = .ok (.int .u8 a.toNat) W := by
  obtain ⟨hi, e⟩ := List.getElem?_eq_some_iff.1 ha
  have hsz : (ByteArray.mk s.toArray).size = s.length := by simp [ByteArray.size]
  rw [run_index_string W 9 ⟨s.toArray⟩ .i64 (i : Int) Tryz.underlying9, dif_pos ⟨by omega, by rw [hsz]; omega⟩]
  subst e
  rfl
def IdP (q : Int) (w : World) (e : Ending) (w' : World) : Prop := e = .returned (.int .i64 q) ∧ w = w'
set_option maxRecDepth 100000 in
set_option maxHeartbeats 4000000 in
theorem dCheck (s : List UInt8) (hl : s.length ≤ 4194304) (w : World) : Calls Tryz.prog 58 #[.string ⟨s.toArray⟩] w (IdP (if idOk s = true then 0 else 290) w) := by
  obtain ⟨n, hn⟩ : ∃ n, s.length = n := ⟨_, rfl⟩
  have hsz : (ByteArray.mk s.toArray).size = n := by rw [← hn]; simp [ByteArray.size]
  have HI := Lib.hid (fun (i : Nat) (a : UInt8) (ha : s[i]? = some a) W => index_strI ha W)
  have HN := Lib.hid hn
  obtain ⟨q, hq⟩ : ∃ q : Int, (if idOk s = true then 0 else 290) = q := ⟨_, rfl⟩
  have HQ := Lib.hid hq
  rw [hq]
  obtain ⟨lb, hlb⟩ : ∃ b, decide (1 ≤ n ∧ n ≤ 24) = b := ⟨_, rfl⟩
  have HLB := Lib.hid hlb
  obtain ⟨S, hS⟩ : ∃ S : ByteArray, ⟨s.toArray⟩ = S := ⟨_, rfl⟩
  rw [hS] at HI hsz ⊢
  rw [hn] at hl
  clear hn hq hlb hS
  go_enter Tryz.func58, Tryz.ntmps58
  go_upto_block 0 with fail
  all_goals
    go_wp2
    go_loopw [4, 5, 16] (fun s4 _ s16 wr => ∃ (i : Nat) (t : Bool), i ≤ n ∧ s16 = .int .i64 (i : Int) ∧ s4 = .bool t ∧ wr = w ∧ Hid (t = (lb && (s.take i).all fun c => plainN c.toNat))) (fun _ _ s16 _ => n - (intOf s16).toNat)
    case atStart => exact ⟨0, _, by omega, rfl, rfl, rfl, Lib.hid (by rw [← HLB.out, List.take_zero, List.all_nil, Bool.and_true]; rw [Bool.eq_iff_iff]; simp; omega)⟩
    case round =>
      obtain ⟨i, t, hi, rfl, rfl, rfl, HT⟩ := hrel
      by_cases hin : i < n
      · obtain ⟨c, hc⟩ : ∃ c, s[i]? = some c := ⟨_, List.getElem?_eq_getElem (by rw [HN.out]; exact hin)⟩
        have hix := fun W => HI.out i c hc W
        have HTK := Lib.hid (show (s.take (i + 1)).all (fun c => plainN c.toNat) = ((s.take i).all (fun c => plainN c.toNat) && plainN c.toNat) by rw [List.take_add_one, hc]; simp)
        clear hc
        obtain ⟨cn, hcn⟩ : ∃ q, c.toNat = q := ⟨_, rfl⟩
        rw [hcn] at hix HTK
        clear hcn
        cases t
        · go_wp2
          go_roundw
          case rel => exact ⟨i + 1, false, by omega, by go_num, (by first | rfl | trivial), (by first | rfl | trivial), Lib.hid (by rw [HTK.out, ← Bool.and_assoc, ← HT.out]; rfl)⟩
          case measure => simp [intOf]; omega
        · go_wp2_with fail
          refine (plain_any cn _).mono ?_
          rintro e w1 ⟨rfl, rfl⟩
          go_wp2
          go_roundw
          case rel => exact ⟨i + 1, plainN cn, by omega, by go_num, (by first | rfl | trivial), (by first | rfl | trivial), Lib.hid (by rw [HTK.out, ← Bool.and_assoc, ← HT.out]; rfl)⟩
          case measure => simp [intOf]; omega
      · obtain rfl : i = n := by omega
        have HQ2 := Lib.hid (show t = idOk s by
          rw [HT.out, List.take_of_length_le (Nat.le_of_eq HN.out)]; unfold idOk; rw [HN.out, HLB.out])
        cases t
        · have HQ3 := Lib.hid (show q = 290 by rw [← HQ.out, ← HQ2.out]; rfl)
          go_wp2
          go_ret
          exact ⟨by rw [HQ3.out]; rfl, rfl⟩
        · have HQ3 := Lib.hid (show q = 0 by rw [← HQ.out, ← HQ2.out]; rfl)
          go_wp2
          go_ret
          exact ⟨by rw [HQ3.out]; rfl, rfl⟩
end Go.Proofs.YtgolomgmnanbpaaGreatDoor
namespace Go.Proofs.YtgolomgmnanbpaaGreatDoor
set_option linter.unusedVariables false
set_option linter.unusedSimpArgs false
open Go.RowKit
attribute [local go_sem] run_index_arr run_part_agg run_part_one run_field_agg
theorem mStmts : ∀ d, ForT d
  | 0 => mStmtsS 0 (fun h => absurd rfl h)
  | d + 1 => mStmtsS (d + 1) (fun _ => mStmts d)
def docT : List UInt8 := [100, 111, 99]
def idT : List UInt8 := [105, 100]
def envM (id : List UInt8) (v : JV) : List (List UInt8 × JV) := [(docT, v), (idT, jText id)]
def mapJ (l : List SJ) (id : List UInt8) (v : JV) : List (JV × JV) × Int :=
  if mayP l = false then ([], 332) else if idOk id = false then ([], 290) else if good v = false then ([], 140) else ((goL (envM id v) (0, []) l).2, 0)
def MapP (r : List (JV × JV) × Int) (w : World) (e : Ending) (w' : World) : Prop := ∃ (A : Option Addr) (n cap : Nat) (ess : List (List Value)), e = .returned (.tuple #[.slice A n cap, .int .i64 r.2]) ∧ r.1.length = n ∧ n ≤ cap ∧ (A = none → cap = 0) ∧ EmRs w' TT ess r.1 ∧ RdF w' TT A ess.flatten ∧ (∀ y ∈ r.1, Came y.1 ∧ Came y.2) ∧ Below w.heap.size w w'
theorem MapP.err {q : Int} {w w' : World} (hb : Below w.heap.size w w') : MapP ([], q) w (.returned (.tuple #[.slice none 0 0, .int .i64 q])) w' :=
  ⟨none, 0, 0, [], rfl, rfl, Nat.le_refl _, fun _ => rfl, RR.nil, RdF.nil, (fun y hy => by cases hy), hb⟩
theorem txtOk_ascii : ∀ {s : List UInt8}, (∀ c ∈ s, c.toNat < 128) → txtOk s = true
  | [], _ => txtOk_nil
  | c :: r, h => by
    rw [txtOk_step (by simp), cpBegin_ascii (h c List.mem_cons_self), if_neg (by show ¬ (1 = 0); decide)]
    exact txtOk_ascii (s := r) (fun y hy => h y (List.mem_cons_of_mem _ hy))
theorem idOk_txt {s : List UInt8} (h : idOk s = true) : txtOk s = true := by
  unfold idOk at h
  rw [Bool.and_eq_true, List.all_eq_true] at h
  refine txtOk_ascii fun c hc => ?_
  have h1 := h.2 c hc
  unfold plainN at h1
  rw [decide_eq_true_eq] at h1
  omega
set_option maxRecDepth 100000 in
set_option maxHeartbeats 8000000 in
theorem mMap (l : List SJ) (css : List (List Value)) (A : Option Addr) (n ca : Nat) (id : List UInt8) (v : JV) (vcs : List Value) (w : World) (hG : GOE w) (hS : SRs w TT css l) (hln : l.length = n) (hnc : n ≤ ca) (hR : RdF w TT A css.flatten) (hC : camSL l) (hsm : smlSL l) (hn : n ≤ 4194304) (hid : id.length ≤ 4194304) (hv : VR w TT vcs v) (hcv : Came v) :
    Calls Tryz.prog 21 #[.agg #[.slice A n ca], .string ⟨id.toArray⟩, .agg vcs.toArray] w (MapP (mapJ l id v) w) := by
  have HV := Lib.hid (fun (W : World) (h : Below w.heap.size w W) => hv.bel h)
  obtain ⟨k1, n1, s1, A1, na1, ca1, B1, nb1, cb1, rfl⟩ := hv.form
  have HCK := Lib.hid (fun (W : World) (h : Below w.heap.size w W) => eCheck l css A n ca TT W (hG.keep h) (RR.imp hS fun c x hc => hc.bel h) hln hnc (hR.keep (KeepF.of_below h)) hC hn)
  have HID := Lib.hid (fun (W : World) => dCheck id hid W)
  have HVC := Lib.hid (fun (W : World) (h : Below w.heap.size w W) (q : Int) (hq : chkJ v = q) => vChk_is hq (hG.keep h).gok (hv.bel h) hcv)
  have HSR := Lib.hid (And.intro hS hR)
  have HQ := Lib.hid (And.intro hln (And.intro hC (And.intro hsm hcv)))
  have HG := Lib.hid hG
  have HIL := Lib.hid hid
  have HH0 := Lib.hid (((Held.nil w).push 46 #[.slice A n ca] (g := w.heap.size) rfl).push 25 #[.int .i64 k1, .int .i64 n1, .string s1, .slice A1 na1 ca1, .slice B1 nb1 cb1] (g := w.heap.size + 1) (by simp))
  clear hG hS hln hR hC hsm hid hv hcv
  unfold PrgP prgE at HCK
  unfold IdP at HID
  obtain ⟨c0, f0, l0⟩ := HH0.out.b1.rules
  obtain ⟨m, hm⟩ : ∃ m, mapJ l id v = m := ⟨_, rfl⟩
  have HMJ := Lib.hid hm
  rw [hm]
  clear hm
  by_cases hp : mayP l = true
  rotate_left
  · rw [if_neg hp] at HCK
    have HE := Lib.hid (show m = ([], 332) by rw [← HMJ.out]; unfold mapJ; rw [if_pos (by simpa using hp)])
    clear hp
    go_enter Tryz.func21, Tryz.ntmps21
    go_wp2_with fail
    refine (HCK.out _ HH0.out.1).mono ?_
    rintro e w1 ⟨rfl, hb1⟩
    have HH1 := Lib.hid (HH0.out.keep hb1)
    clear hb1 c0 f0 l0
    go_wp2
    go_ret2
    rw [HE.out]
    exact MapP.err HH1.out.1
  rw [if_pos hp] at HCK
  have HPO := Lib.hid hp
  by_cases hi : idOk id = true
  rotate_left
  · rw [if_neg hi] at HID
    have HE := Lib.hid (show m = ([], 290) by rw [← HMJ.out]; unfold mapJ; rw [if_neg (by simpa using hp), if_pos (by simpa using hi)])
    clear hp hi
    go_enter Tryz.func21, Tryz.ntmps21
    go_wp2_with fail
    refine (HCK.out _ HH0.out.1).mono ?_
    rintro e w1 ⟨rfl, hb1⟩
    have HH1 := Lib.hid (HH0.out.keep hb1)
    clear hb1 c0 f0 l0
    go_wp2_with fail
    refine (HID.out _).mono ?_
    rintro e w2 ⟨rfl, rfl⟩
    go_wp2
    go_ret2
    rw [HE.out]
    exact MapP.err HH1.out.1
  rw [if_pos hi] at HID
  by_cases hg : good v = true
  rotate_left
  · have HV2 := Lib.hid (fun (W : World) (h : Below w.heap.size w W) => HVC.out W h 140 (by unfold chkJ; rw [if_neg hg]))
    have HE := Lib.hid (show m = ([], 140) by rw [← HMJ.out]; unfold mapJ; rw [if_neg (by simpa using hp), if_neg (by simpa using hi), if_pos (by simpa using hg)])
    clear hp hi hg HVC
    go_enter Tryz.func21, Tryz.ntmps21
    go_wp2_with fail
    refine (HCK.out _ HH0.out.1).mono ?_
    rintro e w1 ⟨rfl, hb1⟩
    have HH1 := Lib.hid (HH0.out.keep hb1)
    clear hb1 c0 f0 l0
    obtain ⟨c0, f0, l0⟩ := HH1.out.b0.rules
    go_wp2_with fail
    refine (HID.out _).mono ?_
    rintro e w2 ⟨rfl, rfl⟩
    go_wp2_with fail
    refine (HV2.out _ HH1.out.1).mono ?_
    rintro e w3 ⟨rfl, hb3⟩
    have HH3 := Lib.hid (HH1.out.keep hb3)
    clear hb3 c0 f0 l0
    go_wp2
    go_ret2
    rw [HE.out]
    exact MapP.err HH3.out.1
  have HV2 := Lib.hid (fun (W : World) (h : Below w.heap.size w W) => HVC.out W h 0 (by unfold chkJ; rw [if_pos hg]))
  have HE := Lib.hid (show m = ((goL (envM id v) (0, []) l).2, 0) by rw [← HMJ.out]; unfold mapJ; rw [if_neg (by simpa using hp), if_neg (by simpa using hi), if_neg (by simpa using hg)])
  have hgt : good (jText id) = true := by
    have h1 := idOk_txt hi
    unfold good jText goodJ goodA nodesJ nodesL goodL
    simp [h1]
  have HTX := Lib.hid (fun W (h : GOK W) => textIs hgt HIL.out W h)
  have HGV := Lib.hid (And.intro hg hgt)
  clear hp hi hg HVC hgt
  go_enter Tryz.func21, Tryz.ntmps21
  go_wp2_with fail
  refine (HCK.out _ HH0.out.1).mono ?_
  rintro e w1 ⟨rfl, hb1⟩
  have HH1 := Lib.hid (HH0.out.keep hb1)
  clear hb1 c0 f0 l0
  obtain ⟨c0, f0, l0⟩ := HH1.out.b0.rules
  go_wp2_with fail
  refine (HID.out _).mono ?_
  rintro e w2 ⟨rfl, rfl⟩
  go_wp2_with fail
  refine (HV2.out _ HH1.out.1).mono ?_
  rintro e w3 ⟨rfl, hb3⟩
  have HH3 := Lib.hid (HH1.out.keep hb3)
  clear hb3 c0 f0 l0
  go_wp2_with fail
  refine (HTX.out _ (HG.out.keep HH3.out.1).gok).mono ?_
  rintro e w4 ⟨cs4, rfl, hv4, hb4⟩
  have HH4 := Lib.hid (HH3.out.keep hb4)
  have HV4 := Lib.hid hv4
  obtain ⟨k5, n5, s5, A5, na5, ca5, B5, nb5, cb5, rfl⟩ := hv4.form
  clear hb4 hv4
  have HH5 := Lib.hid (HH4.out.push 25 #[.int .i64 k5, .int .i64 n5, .string s5, .slice A5 na5 ca5, .slice B5 nb5 cb5] (g := w4.heap.size) rfl)
  obtain ⟨c0, f0, l0⟩ := HH4.out.b0.rules
  go_upto_region 12 with fail
  obtain ⟨WM, hWM⟩ : ∃ WM, ((w4.alloc (.cells #[.int .i64 k5, .int .i64 n5, .string s5, .slice A5 na5 ca5, .slice B5 nb5 cb5] 25)).alloc (.cells #[.string ⟨#[100, 111, 99]⟩, .int .i64 k1, .int .i64 n1, .string s1, .slice A1 na1 ca1, .slice B1 nb1 cb1, .string ⟨#[105, 100]⟩, .int .i64 k5, .int .i64 n5, .string s5, .slice A5 na5 ca5, .slice B5 nb5 cb5] 37)).alloc (.cells #[.int .i64 0, .slice (some ⟨w4.heap.size + 1, 0, none⟩) 2 2, .slice none 0 0] 88) = WM := ⟨_, rfl⟩
  have hbm : Below w4.heap.size w4 WM := by rw [← hWM]; exact (((Below.refl _ w4).alloc (Nat.le_refl _) _).alloc (by simp) _).alloc (by simp; omega) _
  have hsm : WM.heap.size = w4.heap.size + 3 := by rw [← hWM]; simp
  have hBM : Blk WM (w4.heap.size + 1 + 1) 88 #[.int .i64 0, .slice (some ⟨w4.heap.size + 1, 0, none⟩) 2 2, .slice none 0 0] := by
    rw [← hWM]
    have := Blk.new ((w4.alloc (.cells #[.int .i64 k5, .int .i64 n5, .string s5, .slice A5 na5 ca5, .slice B5 nb5 cb5] 25)).alloc (.cells #[.string ⟨#[100, 111, 99]⟩, .int .i64 k1, .int .i64 n1, .string s1, .slice A1 na1 ca1, .slice B1 nb1 cb1, .string ⟨#[105, 100]⟩, .int .i64 k5, .int .i64 n5, .string s5, .slice A5 na5 ca5, .slice B5 nb5 cb5] 37)) 88 #[.int .i64 0, .slice (some ⟨w4.heap.size + 1, 0, none⟩) 2 2, .slice none 0 0]
    rw [World.size_alloc, World.size_alloc] at this; exact this
  have hBE : Blk WM (w4.heap.size + 1) 37 #[.string ⟨#[100, 111, 99]⟩, .int .i64 k1, .int .i64 n1, .string s1, .slice A1 na1 ca1, .slice B1 nb1 cb1, .string ⟨#[105, 100]⟩, .int .i64 k5, .int .i64 n5, .string s5, .slice A5 na5 ca5, .slice B5 nb5 cb5] := by
    rw [← hWM]
    have := Blk.new (w4.alloc (.cells #[.int .i64 k5, .int .i64 n5, .string s5, .slice A5 na5 ca5, .slice B5 nb5 cb5] 25)) 37 #[.string ⟨#[100, 111, 99]⟩, .int .i64 k1, .int .i64 n1, .string s1, .slice A1 na1 ca1, .slice B1 nb1 cb1, .string ⟨#[105, 100]⟩, .int .i64 k5, .int .i64 n5, .string s5, .slice A5 na5 ca5, .slice B5 nb5 cb5]
    rw [World.size_alloc] at this; exact this.alloc _
  have hMM : Below w.heap.size w WM := HH4.out.1.trans (hbm.mono HH4.out.1.size)
  rw [hWM]
  clear hWM c0 f0 l0
  have hwm4 : w.heap.size ≤ w4.heap.size := HH4.out.1.size
  have hold : ∀ b, b < w4.heap.size → PbM (w4.heap.size + 1 + 1) (.slice none 0 0) WM b := fun b hb => ⟨by omega, by omega, by simp [Value.ownBlock]⟩
  have hvM : VR WM (PbM (w4.heap.size + 1 + 1) (.slice none 0 0) WM) [.int .i64 k1, .int .i64 n1, .string s1, .slice A1 na1 ca1, .slice B1 nb1 cb1] v := (((HV.out _ HH4.out.1).mono (F' := fun b => b < w4.heap.size) fun b hb _ => hb).keep (KeepF.of_below hbm)).mono fun b _ hb => hold b hb
  have hiM : VR WM (PbM (w4.heap.size + 1 + 1) (.slice none 0 0) WM) [.int .i64 k5, .int .i64 n5, .string s5, .slice A5 na5 ca5, .slice B5 nb5 cb5] (jText id) := HV4.out.anyW
  have hms : MS (w4.heap.size + 1 + 1) (some ⟨w4.heap.size + 1, 0, none⟩) 2 [[.string ⟨#[100, 111, 99]⟩, .int .i64 k1, .int .i64 n1, .string s1, .slice A1 na1 ca1, .slice B1 nb1 cb1], [.string ⟨#[105, 100]⟩, .int .i64 k5, .int .i64 n5, .string s5, .slice A5 na5 ca5, .slice B5 nb5 cb5]] (.slice none 0 0) [] (envM id v) (0, []) WM := by
    refine ⟨hBM, World.ownsRow_nil _ _ _ _, RR.nil, ?_, ?_, Nat.le_refl _, ?_, by show 2 ≤ 4194304; omega, ⟨w, HG.out, by omega, hMM⟩, by show 0 ≤ 4; omega, by show 0 ≤ 256; omega, fun y hy => by cases hy⟩
    · exact (RR.nil.snoc (x := (docT, v)) ⟨[.int .i64 k1, .int .i64 n1, .string s1, .slice A1 na1 ca1, .slice B1 nb1 cb1], rfl, hvM⟩).snoc (x := (idT, jText id)) ⟨[.int .i64 k5, .int .i64 n5, .string s5, .slice A5 na5 ca5, .slice B5 nb5 cb5], rfl, hiM⟩
    · intro hne
      refine ⟨_, _, rfl, by omega, ⟨by omega, by omega, by simp [Value.ownBlock]⟩, fun j hj => ?_⟩
      rw [Nat.zero_add, hBE.cell]
      simp at hj
      simp [hj]
    · intro b hb
      rcases List.mem_cons.1 hb with rfl | hb
      · exact ⟨HGV.out.1, HQ.out.2.2.2⟩
      · obtain rfl := List.mem_singleton.1 hb
        exact ⟨HGV.out.2, came_atom (by unfold iw; omega) (by unfold iw; omega) HIL.out⟩
  have hsM : SRs WM (PbM (w4.heap.size + 1 + 1) (.slice none 0 0) WM) css l := RR.imp HSR.out.1 fun c x hc => ((hc.mono (F' := fun b => b < w.heap.size) fun b hb _ => hb).keep ((KeepF.of_below hMM))).mono fun b _ hb => hold b (by omega)
  have hrM : RdF WM (PbM (w4.heap.size + 1 + 1) (.slice none 0 0) WM) A css.flatten := ((HSR.out.2.mono (F' := fun b => b < w.heap.size) fun b hb _ => hb).keep ((KeepF.of_below hMM))).mono fun b _ hb => hold b (by omega)
  have HST := Lib.hid (mStmts 12 l _ _ _ _ _ _ (envM id v) (0, []) WM css A n ca hms hsM HQ.out.1 hnc hrM HPO.out HQ.out.2.1 HQ.out.2.2.1 hn (by show 2 + 12 ≤ 4194304; omega) (by unfold envM; simp))
  have HMM := Lib.hid (And.intro hMM (And.intro hwm4 hbm.size))
  obtain ⟨c0, f0, l0⟩ := (HH4.out.b1.keep hbm).rules
  clear hms hsM hrM hvM hiM hold hBM hBE hMM hbm hsm hwm4
  go_wp2_with fail
  refine HST.out.mono ?_
  rintro e w7 ⟨⟨v7, rfl⟩, em7, es7, hM7, hG7⟩
  have hb7 := HMM.out.1.trans (hG7.below (base := w.heap.size) HMM.out.1.size (by have := HMM.out.2.1; omega) (fun k h => by simp [Value.ownBlock] at h))
  obtain ⟨EA7, ec7, rfl, he7, hA7, hr7⟩ := own_parts hM7.own
  obtain ⟨ne7, hne7⟩ : ∃ q, (goL (envM id v) (0, []) l).2.length = q := ⟨_, rfl⟩
  have HX := Lib.hid (show MapP m w (.returned (.tuple #[.slice EA7 ne7 ec7, .int .i64 0])) w7 by
    rw [HE.out]
    exact ⟨EA7, ne7, ec7, es7, rfl, hne7, by rw [← hne7]; exact he7, hA7, RR.imp hM7.ems fun c x hc => hc.mono fun _ _ _ => trivial, hr7.mono fun _ _ _ => trivial, hM7.emc, hb7⟩)
  obtain ⟨c9, f9, l9⟩ := hM7.blk.rules
  rw [hne7] at c9
  clear hM7 hG7 hb7 he7 hA7 hr7 hne7 c0 f0 l0
  go_wp2
  go_ret2
  exact HX.out
end Go.Proofs.YtgolomgmnanbpaaGreatDoor
namespace Go.Proofs.YtgolomgmnanbpaaGreatDoor
set_option linter.unusedVariables false
set_option linter.unusedSimpArgs false
open Go.RowKit
attribute [local go_sem] run_index_arr run_part_agg run_part_one run_field_agg
end Go.Proofs.YtgolomgmnanbpaaGreatDoor
namespace Go.Proofs.YtgolomgmnanbpaaGreatDoor
set_option linter.unusedVariables false
set_option linter.unusedSimpArgs false
open Go.RowKit
theorem cam_cutE : ∀ (r : Nat) (x : EJ), camE x → camE (cutE r x)
  | 0, .mk k v s kids, h => by
    unfold camE at h
    unfold cutE camE
    exact ⟨h.1, h.2.1, h.2.2.1, by simp, trivial⟩
  | r + 1, .mk k v s kids, h => by
    unfold camE at h
    unfold cutE camE
    refine ⟨h.1, h.2.1, h.2.2.1, by simp; omega, camEL_iff.2 fun x hx => ?_⟩
    obtain ⟨y, hy, rfl⟩ := List.mem_map.1 hx
    exact cam_cutE r y (camEL_iff.1 h.2.2.2.2 y (List.mem_of_mem_take hy))
theorem sml_cutE : ∀ (r : Nat) (x : EJ), smlE (cutE r x)
  | 0, .mk k v s kids => by
    unfold cutE smlE
    exact ⟨by simp, trivial⟩
  | r + 1, .mk k v s kids => by
    unfold cutE smlE
    refine ⟨by simp; omega, smlEL_iff.2 fun x hx => ?_⟩
    obtain ⟨y, hy, rfl⟩ := List.mem_map.1 hx
    exact sml_cutE r y
def FewP (l : List SJ) (F : Nat → Prop) (w : World) (e : Ending) (w' : World) : Prop := ∃ (A : Option Addr) (n ca : Nat) (css : List (List Value)), e = .returned (.agg #[.slice A n ca]) ∧ n = l.length ∧ n ≤ ca ∧ (A = none → ca = 0) ∧ SRs w' (FN F w) css l ∧ RdF w' (FN F w) A css.flatten ∧ Below w.heap.size w w'
end Go.Proofs.YtgolomgmnanbpaaGreatDoor
namespace Go.Proofs.YtgolomgmnanbpaaGreatDoor
set_option linter.unusedVariables false
set_option linter.unusedSimpArgs false
open Go.RowKit
attribute [local go_sem] run_index_arr run_part_agg run_part_one run_field_agg
def evalJ (x : EJ) (env : List (List UInt8 × JV)) : Option JV := if fitE x ∧ (env.all fun b => good b.2) = true then evE env x else none
def EvaP (o : Option JV) (w : World) (e : Ending) (w' : World) : Prop := ∃ (cs : List Value) (v : JV) (b : Bool), e = .returned (.tuple #[.agg cs.toArray, .bool b]) ∧ VR w' TT cs v ∧ Came v ∧ o = (if b = true then some v else none) ∧ (b = true → good v = true) ∧ (b = false → v = jZero) ∧ Below w.heap.size w w'
theorem EvaP.none_ {o : Option JV} {w w' : World} (ho : o = none) (hb : Below w.heap.size w w') :
    EvaP o w (.returned (.tuple #[.agg #[.int .i64 0, .int .i64 0, .string ⟨#[]⟩, .slice none 0 0, .slice none 0 0], .bool false])) w' :=
  ⟨_, jZero, false, rfl, VR.zero, came_atom (by unfold iw; omega) (by unfold iw; omega) (by simp), by rw [ho]; rfl, (fun h => by cases h), fun _ => rfl, hb⟩
def VNuP (w : World) (e : Ending) (w' : World) : Prop := e = .returned (.agg #[.int .i64 1, .int .i64 0, .string ⟨#[]⟩, .slice none 0 0, .slice none 0 0]) ∧ Below w.heap.size w w'
set_option maxRecDepth 100000 in
set_option maxHeartbeats 4000000 in
theorem vNullV (w : World) : Calls Tryz.prog 38 #[] w (VNuP w) := by
  go_enter Tryz.func38, Tryz.ntmps38
  go_wp2
  refine bodyPost_ret (v := .agg #[.int .i64 1, .int .i64 0, .string ⟨#[]⟩, .slice none 0 0, .slice none 0 0]) (by simp only [results, Tryz.results38]; go_simp) rfl ?_
  exact ⟨rfl, by go_grown⟩
def nullE : EJ := .mk 1 (.mk 1 0 [] [] []) [] []
theorem fit_null : fitE nullE := by decide
theorem may_one (x : EJ) : mayP [.mk 1 [] x nullE [] []] = decide (fitE x) := by
  unfold mayP
  rw [mayL, mayL, mayS, Bool.and_true]
  have h := fit_null
  by_cases hx : fitE x <;> simp [hx, h]
set_option maxRecDepth 100000 in
set_option maxHeartbeats 8000000 in
theorem vEval (x : EJ) (cs : List Value) (env : List (List UInt8 × JV)) (ecs : List (List Value)) (EA : Option Addr) (n ec : Nat) (w : World) (hG : GOE w) (hx : ER w TT cs x) (hE : BnRs w TT ecs env) (hn : env.length = n) (hnc : n ≤ ec) (hR : RdF w TT EA ecs.flatten) (hl : n ≤ 4194304) (hcx : camE x) (hsx : smlE x) (hce : ∀ b ∈ env, Came b.2) :
    Calls Tryz.prog 13 #[.agg cs.toArray, .slice EA n ec] w (EvaP (evalJ x env) w) := by
  have HX := Lib.hid (fun (W : World) (h : Below w.heap.size w W) => hx.bel h)
  obtain ⟨k, k1, n1, s1, A1, na1, ca1, B1, nb1, cb1, s, A, nr, ca, rfl⟩ := hx.form
  have HG := Lib.hid hG
  have HEN := Lib.hid (And.intro hE hR)
  have HN := Lib.hid hn
  have HCE := Lib.hid hce
  have HCX := Lib.hid (And.intro hcx hsx)
  have HH0 := Lib.hid (((Held.nil w).push 28 #[.int .i64 k, .int .i64 k1, .int .i64 n1, .string s1, .slice A1 na1 ca1, .slice B1 nb1 cb1, .string s, .slice A nr ca] (g := w.heap.size) rfl).push 25 #[.int .i64 0, .int .i64 0, .string ⟨#[]⟩, .slice none 0 0, .slice none 0 0] (g := w.heap.size + 1) (by simp))
  obtain ⟨op, hop⟩ : ∃ q, evalJ x env = q := ⟨_, rfl⟩
  have HOP := Lib.hid hop
  rw [hop]
  clear hG hx hE hn hR hcx hsx hce hop
  go_enter Tryz.func13, Tryz.ntmps13
  go_wp2_with fail
  refine (vNullV _).mono ?_
  rintro e w1 ⟨rfl, hb1⟩
  have HH1 := Lib.hid ((HH0.out.keep hb1).push 28 #[.int .i64 1, .int .i64 1, .int .i64 0, .string ⟨#[]⟩, .slice none 0 0, .slice none 0 0, .string ⟨#[]⟩, .slice none 0 0] (g := w1.heap.size) rfl)
  have hsz1 : w.heap.size + 2 ≤ w1.heap.size := by have := hb1.size; simpa using this
  clear hb1
  obtain ⟨c0, f0, l0⟩ := HH1.out.b2.rules
  obtain ⟨c1, f1, l1⟩ := HH1.out.b0.rules
  obtain ⟨W2, hW2⟩ : ∃ W2, (w1.alloc (.cells #[.int .i64 1, .int .i64 1, .int .i64 0, .string ⟨#[]⟩, .slice none 0 0, .slice none 0 0, .string ⟨#[]⟩, .slice none 0 0] 28)).alloc (.cells #[.int .i64 1, .string ⟨#[]⟩, .int .i64 k, .int .i64 k1, .int .i64 n1, .string s1, .slice A1 na1 ca1, .slice B1 nb1 cb1, .string s, .slice A nr ca, .int .i64 1, .int .i64 1, .int .i64 0, .string ⟨#[]⟩, .slice none 0 0, .slice none 0 0, .string ⟨#[]⟩, .slice none 0 0, .slice none 0 0, .slice none 0 0] 69) = W2 := ⟨_, rfl⟩
  have HH2 := Lib.hid (show Held [(w1.heap.size, 28, #[.int .i64 1, .int .i64 1, .int .i64 0, .string ⟨#[]⟩, .slice none 0 0, .slice none 0 0, .string ⟨#[]⟩, .slice none 0 0]), (w.heap.size + 1, 25, #[.int .i64 0, .int .i64 0, .string ⟨#[]⟩, .slice none 0 0, .slice none 0 0]), (w.heap.size, 28, #[.int .i64 k, .int .i64 k1, .int .i64 n1, .string s1, .slice A1 na1 ca1, .slice B1 nb1 cb1, .string s, .slice A nr ca])] w W2 by rw [← hW2]; exact HH1.out.alloc _)
  have hbs : Blk W2 (w1.heap.size + 1) 69 #[.int .i64 1, .string ⟨#[]⟩, .int .i64 k, .int .i64 k1, .int .i64 n1, .string s1, .slice A1 na1 ca1, .slice B1 nb1 cb1, .string s, .slice A nr ca, .int .i64 1, .int .i64 1, .int .i64 0, .string ⟨#[]⟩, .slice none 0 0, .slice none 0 0, .string ⟨#[]⟩, .slice none 0 0, .slice none 0 0, .slice none 0 0] := by
    rw [← hW2]
    have := Blk.new (w1.alloc (.cells #[.int .i64 1, .int .i64 1, .int .i64 0, .string ⟨#[]⟩, .slice none 0 0, .slice none 0 0, .string ⟨#[]⟩, .slice none 0 0] 28)) 69 #[.int .i64 1, .string ⟨#[]⟩, .int .i64 k, .int .i64 k1, .int .i64 n1, .string s1, .slice A1 na1 ca1, .slice B1 nb1 cb1, .string s, .slice A nr ca, .int .i64 1, .int .i64 1, .int .i64 0, .string ⟨#[]⟩, .slice none 0 0, .slice none 0 0, .string ⟨#[]⟩, .slice none 0 0, .slice none 0 0, .slice none 0 0]
    rw [World.size_alloc] at this; exact this
  have hsr : SRs W2 TT [[.int .i64 1, .string ⟨#[]⟩, .int .i64 k, .int .i64 k1, .int .i64 n1, .string s1, .slice A1 na1 ca1, .slice B1 nb1 cb1, .string s, .slice A nr ca, .int .i64 1, .int .i64 1, .int .i64 0, .string ⟨#[]⟩, .slice none 0 0, .slice none 0 0, .string ⟨#[]⟩, .slice none 0 0, .slice none 0 0, .slice none 0 0]] [.mk 1 [] x nullE [] []] := by
    have h1 : SR W2 TT [.int .i64 1, .string ⟨#[]⟩, .int .i64 k, .int .i64 k1, .int .i64 n1, .string s1, .slice A1 na1 ca1, .slice B1 nb1 cb1, .string s, .slice A nr ca, .int .i64 1, .int .i64 1, .int .i64 0, .string ⟨#[]⟩, .slice none 0 0, .slice none 0 0, .string ⟨#[]⟩, .slice none 0 0, .slice none 0 0, .slice none 0 0] (.mk 1 [] x nullE [] []) := SR.into (HX.out W2 HH2.out.1) (ER.leaf 1 [] (VR.atom 1 0 [])) (body := []) (els := []) (css := []) (dss := []) RR.nil rfl (Nat.le_refl _) (fun _ => rfl) RdF.nil RR.nil rfl (Nat.le_refl _) (fun _ => rfl) RdF.nil
    exact RR.nil.snoc h1
  have hrd : RdF W2 TT (some ⟨w1.heap.size + 1, 0, none⟩) ([[.int .i64 1, .string ⟨#[]⟩, .int .i64 k, .int .i64 k1, .int .i64 n1, .string s1, .slice A1 na1 ca1, .slice B1 nb1 cb1, .string s, .slice A nr ca, .int .i64 1, .int .i64 1, .int .i64 0, .string ⟨#[]⟩, .slice none 0 0, .slice none 0 0, .string ⟨#[]⟩, .slice none 0 0, .slice none 0 0, .slice none 0 0]] : List (List Value)).flatten := by
    intro _
    refine ⟨_, _, rfl, hbs.lt, trivial, fun j hj => ?_⟩
    rw [Nat.zero_add, hbs.cell]
    simp at hj
    simp [hj]
  have hcam : camSL [.mk 1 [] x nullE [] []] := by
    have hn : camE nullE := by
      unfold nullE camE
      exact ⟨by unfold iw; omega, came_atom (by unfold iw; omega) (by unfold iw; omega) (by simp), by simp, by simp, trivial⟩
    unfold camSL camS
    exact ⟨⟨by unfold iw; omega, by simp, HCX.out.1, hn, by simp, by simp, trivial, trivial⟩, trivial⟩
  have hck := eCheck [.mk 1 [] x nullE [] []] _ _ 1 1 TT W2 (HG.out.keep HH2.out.1) hsr rfl (Nat.le_refl _) hrd hcam (by omega)
  unfold PrgP prgE at hck
  rw [may_one] at hck
  have HW2 := Lib.hid hW2
  clear hW2 hbs hsr hrd hcam
  by_cases hf : fitE x
  rotate_left
  · rw [decide_eq_false hf, if_neg (by decide)] at hck
    have HCK := Lib.hid hck
    have HE := Lib.hid (show op = none by rw [← HOP.out]; unfold evalJ; rw [if_neg (fun h => hf h.1)])
    clear hck hf
    go_wp2_with fail
    rw [HW2.out]
    refine HCK.out.mono ?_
    rintro e w3 ⟨rfl, hb3⟩
    have HH3 := Lib.hid (HH2.out.keep hb3)
    clear hb3 c0 f0 l0 c1 f1 l1
    go_wp2_with fail
    refine (mNone _).mono ?_
    rintro e wn ⟨rfl, hbn⟩
    have HHN := Lib.hid (HH3.out.keep hbn)
    clear hbn
    obtain ⟨c9, f9, l9⟩ := HHN.out.b1.rules
    go_wp2
    refine bodyPost_ret (v := .tuple #[.agg #[.int .i64 0, .int .i64 0, .string ⟨#[]⟩, .slice none 0 0, .slice none 0 0], .bool false]) (by simp only [results, Tryz.results13]; go_simp) rfl ?_
    exact EvaP.none_ HE.out (five_bel HHN.out.1 (by omega) _ _ _ _ _)
  rw [decide_eq_true hf, if_pos rfl] at hck
  have HCK := Lib.hid hck
  have HFX := Lib.hid hf
  clear hck hf
  go_wp2_with fail
  rw [HW2.out]
  refine HCK.out.mono ?_
  rintro e w3 ⟨rfl, hb3⟩
  have HH3 := Lib.hid (HH2.out.keep hb3)
  clear hb3 c0 f0 l0 c1 f1 l1 HH1 HH2 HW2 HCK
  go_wp2
  go_loopg [25] n (fun gk s25 wr => ∃ i : Nat, i ≤ n ∧ gk = n - i ∧ s25 = .int .i64 (i : Int) ∧ Hid (Held [(w1.heap.size, 28, #[.int .i64 1, .int .i64 1, .int .i64 0, .string ⟨#[]⟩, .slice none 0 0, .slice none 0 0, .string ⟨#[]⟩, .slice none 0 0]), (w.heap.size + 1, 25, #[.int .i64 0, .int .i64 0, .string ⟨#[]⟩, .slice none 0 0, .slice none 0 0]), (w.heap.size, 28, #[.int .i64 k, .int .i64 k1, .int .i64 n1, .string s1, .slice A1 na1 ca1, .slice B1 nb1 cb1, .string s, .slice A nr ca])] w wr) ∧ Hid ((env.take i).all (fun b => good b.2) = true))
  case atStart => exact ⟨0, Nat.zero_le _, by go_num, rfl, HH3, Lib.hid (by rw [List.take_zero]; rfl)⟩
  case round =>
    obtain ⟨i, hi, hgk, rfl, HH, HA⟩ := hrel
    have HGK := Lib.hid hgk
    clear hgk HH3
    by_cases hlt : i < n
    · obtain ⟨⟨bn, bv⟩, hx⟩ : ∃ x, env[i]? = some x := ⟨_, List.getElem?_eq_getElem (by rw [HN.out]; exact hlt)⟩
      have hxm := List.mem_of_getElem? hx
      obtain ⟨b, o, kx, nx, sx5, Ax, nax, cax, Bx, nbx, cbx, rfl, hb, _, hvx, hz⟩ := kid_cellsB HEN.out.1 HEN.out.2 hx
      obtain ⟨z0, z1, z2, z3, z4, z5⟩ := hz wr (KeepF.of_below HH.out.1)
      have hlb : b < wr.heap.size := Nat.lt_of_lt_of_le hb HH.out.1.size
      have HP := Lib.hid (HH.out.push 37 #[.string ⟨bn.toArray⟩, .int .i64 kx, .int .i64 nx, .string sx5, .slice Ax nax cax, .slice Bx nbx cbx] (g := wr.heap.size) rfl)
      have HCV := Lib.hid (fun (q : Int) (hq : chkJ bv = q) => vChk_is hq (HG.out.keep HP.out.1).gok (hvx.bel HP.out.1) (HCE.out _ hxm))
      have HTK := Lib.hid (show (env.take (i + 1)).all (fun b => good b.2) = ((env.take i).all (fun b => good b.2) && good bv) by rw [List.take_add_one, hx]; simp)
      have HNO := Lib.hid (show good bv = false → op = none from fun hg => by
        rw [← HOP.out]; unfold evalJ
        rw [if_neg (fun h => by
          have h1 := List.all_eq_true.1 h.2 _ hxm
          simp only at h1; rw [hg] at h1; cases h1)])
      clear hz hx hxm hb hvx
      cases hg : good bv with
      | false =>
        have HCF := Lib.hid (HCV.out 140 (by unfold chkJ; rw [if_neg (by rw [hg]; decide)]))
        have HE := Lib.hid (HNO.out hg)
        clear hg HCV HNO HTK
        go_wp2_with fail
        refine HCF.out.mono ?_
        rintro e w4 ⟨rfl, hb4⟩
        have HH4 := Lib.hid (HP.out.keep hb4)
        clear hb4 z0 z1 z2 z3 z4 z5
        go_wp2_with fail
        refine (mNone _).mono ?_
        rintro e wn ⟨rfl, hbn⟩
        have HHN := Lib.hid (HH4.out.keep hbn)
        clear hbn
        obtain ⟨c9, f9, l9⟩ := HHN.out.b2.rules
        go_wp2
        refine bodyPost_ret (v := .tuple #[.agg #[.int .i64 0, .int .i64 0, .string ⟨#[]⟩, .slice none 0 0, .slice none 0 0], .bool false]) (by simp only [results, Tryz.results13]; go_simp) rfl ?_
        exact EvaP.none_ HE.out (five_bel HHN.out.1 (by omega) _ _ _ _ _)
      | true =>
        have HCF := Lib.hid (HCV.out 0 (by unfold chkJ; rw [if_pos hg]))
        have HT2 := Lib.hid (show (env.take (i + 1)).all (fun b => good b.2) = true by rw [HTK.out, HA.out, hg]; rfl)
        clear hg HCV HNO HTK
        go_wp2_with fail
        refine HCF.out.mono ?_
        rintro e w4 ⟨rfl, hb4⟩
        have HH4 := Lib.hid (HP.out.keep hb4)
        clear hb4 z0 z1 z2 z3 z4 z5
        go_wp2
        go_roundg (n - (i + 1))
        case measure => rw [HGK.out]; omega
        case rel => exact ⟨i + 1, by omega, rfl, by go_num, Lib.hid HH4.out.pop, HT2⟩
    · obtain rfl : i = n := by omega
      have hall : env.all (fun b => good b.2) = true := by have h := HA.out; rw [List.take_of_length_le (Nat.le_of_eq HN.out)] at h; exact h
      have HE := Lib.hid (show op = evE env x by rw [← HOP.out]; unfold evalJ; rw [if_pos ⟨HFX.out, hall⟩])
      obtain ⟨WM, hWM⟩ : ∃ WM, wr.alloc (.cells #[.int .i64 0, .slice EA i ec, .slice none 0 0] 88) = WM := ⟨_, rfl⟩
      have hbm : Below wr.heap.size wr WM := by rw [← hWM]; exact (Below.refl _ _).alloc (Nat.le_refl _) _
      have hBM : Blk WM wr.heap.size 88 #[.int .i64 0, .slice EA i ec, .slice none 0 0] := by rw [← hWM]; exact Blk.new _ _ _
      have hwM : Below w.heap.size w WM := HH.out.1.trans (hbm.mono HH.out.1.size)
      have hold : ∀ c y, BnR w TT c y → BnR WM (fun b => b < w.heap.size) c y := fun c y h => (h.mono (F' := fun b => b < w.heap.size) fun b hb _ => hb).keep (KeepF.of_below hwM)
      have hmok : MacOk wr.heap.size (fun b => b < w.heap.size) env WM :=
        ⟨HG.out.keep hwM, fun b hb => Nat.lt_of_lt_of_le hb hwM.size, ⟨_, _, EA, ec, ecs, by rw [HN.out]; exact hBM, RR.imp HEN.out.1 hold, by rw [HN.out]; exact hnc, (HEN.out.2.mono (F' := fun b => b < w.heap.size) fun b hb _ => hb).keep (KeepF.of_below hwM)⟩, by rw [HN.out]; exact hl, fun b hb => ⟨List.all_eq_true.1 hall b hb, HCE.out b hb⟩⟩
      have hxM : ER WM (fun b => b < w.heap.size) [.int .i64 k, .int .i64 k1, .int .i64 n1, .string s1, .slice A1 na1 ca1, .slice B1 nb1 cb1, .string s, .slice A nr ca] x := ((HX.out w (Below.refl _ _)).mono (F' := fun b => b < w.heap.size) fun b hb _ => hb).keep (KeepF.of_below hwM)
      have HEX := Lib.hid (mExpr 12 wr.heap.size _ env WM x _ hmok HFX.out HCX.out.1 HCX.out.2 hxM)
      have HHM := Lib.hid (HH.out.keep hbm)
      have HWM := Lib.hid hWM
      clear hall hbm hBM hwM hold hmok hxM hWM
      obtain ⟨c0, f0, l0⟩ := HH.out.b2.rules
      go_wp2_with fail
      rw [HWM.out]
      refine HEX.out.mono ?_
      rintro e w5 ⟨cs5, v5, b5, rfl, hv5, hc5, ho5, hg5, hb5⟩
      have HV5 := Lib.hid (hv5.mono (F' := fun b => b ≠ w.heap.size + 1) fun b _ hb => by
        have h1 := HHM.out.b1.lt
        rcases hb with hb | hb
        · exact (by omega : b ≠ w.heap.size + 1)
        · exact (by omega : b ≠ w.heap.size + 1))
      obtain ⟨k5, n5, s5, A5, na5, ca5, B5, nb5, cb5, rfl⟩ := hv5.form
      have HH5 := Lib.hid ((HHM.out.keep hb5).push 25 #[.int .i64 k5, .int .i64 n5, .string s5, .slice A5 na5 ca5, .slice B5 nb5 cb5] (g := w5.heap.size) rfl)
      have HQ5 := Lib.hid (And.intro hc5 (And.intro ho5 hg5))
      have hne : w5.heap.size ≠ w.heap.size + 1 := by have := HHM.out.b1.lt; have := hb5.size; omega
      have hne2 : w.heap.size + 1 ≠ w5.heap.size := hne.symm
      clear hv5 hc5 ho5 hg5 hb5 c0 f0 l0
      cases b5
      · have HE2 := Lib.hid (show op = none by rw [HE.out, HQ5.out.2.1]; rfl)
        go_wp2_with fail
        refine (mNone _).mono ?_
        rintro e wn ⟨rfl, hbn⟩
        have HHN := Lib.hid (HH5.out.keep hbn)
        clear hbn
        obtain ⟨c9, f9, l9⟩ := HHN.out.b2.rules
        go_wp2
        refine bodyPost_ret (v := .tuple #[.agg #[.int .i64 0, .int .i64 0, .string ⟨#[]⟩, .slice none 0 0, .slice none 0 0], .bool false]) (by simp only [results, Tryz.results13]; go_simp) rfl ?_
        exact EvaP.none_ HE2.out (five_bel HHN.out.1 (by omega) _ _ _ _ _)
      · have HG5 := Lib.hid (HQ5.out.2.2 rfl)
        obtain ⟨c0, f0, l0⟩ := HH5.out.b0.rules
        obtain ⟨c9, f9, l9⟩ := HH5.out.b2.rules
        go_wp2
        refine bodyPost_ret (v := .tuple #[.agg #[.int .i64 k5, .int .i64 n5, .string s5, .slice A5 na5 ca5, .slice B5 nb5 cb5], .bool true]) (by simp only [results, Tryz.results13]; go_simp) rfl ?_
        have hfin : ∀ b, (b ≠ w.heap.size + 1) → b ≠ w.heap.size + 1 := fun b hb => hb
        exact ⟨_, v5, true, rfl, (((HV5.out.keep (KeepF.of_below ((Below.refl _ w5).alloc (Nat.le_refl _) (.cells #[.int .i64 k5, .int .i64 n5, .string s5, .slice A5 na5 ca5, .slice B5 nb5 cb5] 25)))).keep (((((KeepF.refl.set hfin 0 _).set hfin 1 _).set hfin 2 _).set hfin 3 _).set hfin 4 _))).mono (fun _ _ _ => trivial), HQ5.out.1, by rw [HE.out, HQ5.out.2.1]; simp, fun _ => HG5.out, (fun h => by cases h), five_bel HH5.out.1 (by omega) _ _ _ _ _⟩
end Go.Proofs.YtgolomgmnanbpaaGreatDoor
namespace Go.Proofs.YtgolomgmnanbpaaGreatDoor
set_option linter.unusedVariables false
set_option linter.unusedSimpArgs false
def xName (s : List UInt8) : EJ := .mk 2 jZero s []
def xInt (n : Int) : EJ := .mk 1 (jNum n) [] []
def xOf (k : Int) (l : List EJ) : EJ := .mk k jZero [] l
def xFalse : EJ := .mk 1 (.mk 2 0 [] [] []) [] []
def wx1 : EJ := xOf 9 [xName [110], xInt 1]
def wx2 : EJ := xOf 9 [xInt 9223372036854775807, xInt 1]
def wx3 : EJ := xOf 14 [xFalse, xInt 1]
def wpr : List SJ := [.mk 3 [120] (xName docT) eZero [.mk 1 [] (xName [120]) (xName idT) [] []] []]
theorem wk1 : evalJ wx1 [([110], jNum 3)] = some (jNum 4) := by
  unfold evalJ
  rw [if_pos ⟨by decide, by decide⟩]
  rfl
theorem wk2 : evalJ wx2 [] = none := by
  unfold evalJ
  rw [if_pos ⟨by decide, by decide⟩]
  rfl
theorem wk3 : evalJ wx3 [] = some (jBool false) := by
  unfold evalJ
  rw [if_pos ⟨by decide, by decide⟩]
  rfl
theorem wk4 : mapJ wpr [97] (jArr [jNum 7]) = ([(jNum 7, jText [97])], 0) := by
  unfold mapJ
  rw [if_neg (by decide), if_neg (by decide), if_neg (by decide)]
  rfl
theorem wk5 : mapJ wpr [65] (.mk 1 0 [] [] []) = ([], 290) := by
  unfold mapJ
  rw [if_neg (by decide), if_pos (by decide)]
end Go.Proofs.YtgolomgmnanbpaaGreatDoor
namespace Go.Proofs.YtgolomgmnanbpaaGreatDoor
set_option linter.unusedVariables false
set_option linter.unusedSimpArgs false
open Go.RowKit
attribute [local go_sem] run_index_arr run_part_agg run_part_one run_field_agg
def CelP (cs : Array Value) (w : World) (e : Ending) (w' : World) : Prop := e = .returned (.agg cs) ∧ Below w.heap.size w w'
set_option maxRecDepth 100000 in
set_option maxHeartbeats 4000000 in
theorem lNamed (s : ByteArray) (w : World) : Calls Tryz.prog 26 #[.string s] w (CelP #[.int .i64 2, .int .i64 0, .int .i64 0, .string ⟨#[]⟩, .slice none 0 0, .slice none 0 0, .string s, .slice none 0 0] w) := by
  go_enter Tryz.func26, Tryz.ntmps26
  go_wp2
  refine bodyPost_ret (v := .agg #[.int .i64 2, .int .i64 0, .int .i64 0, .string ⟨#[]⟩, .slice none 0 0, .slice none 0 0, .string s, .slice none 0 0]) (by simp only [results, Tryz.results26]; go_simp) rfl ?_
  exact ⟨rfl, by go_grown⟩
set_option maxRecDepth 100000 in
set_option maxHeartbeats 4000000 in
theorem lIn25 (n : Int) (w : World) : Calls Tryz.prog 31 #[.int .i64 n] w (CelP #[.int .i64 1, .int .i64 3, .int .i64 n, .string ⟨#[]⟩, .slice none 0 0, .slice none 0 0, .string ⟨#[]⟩, .slice none 0 0] w) := by
  go_enter Tryz.func31, Tryz.ntmps31
  go_wp2
  refine bodyPost_ret (v := .agg #[.int .i64 1, .int .i64 3, .int .i64 n, .string ⟨#[]⟩, .slice none 0 0, .slice none 0 0, .string ⟨#[]⟩, .slice none 0 0]) (by simp only [results, Tryz.results31]; go_simp) rfl ?_
  exact ⟨rfl, by go_grown⟩
end Go.Proofs.YtgolomgmnanbpaaGreatDoor
