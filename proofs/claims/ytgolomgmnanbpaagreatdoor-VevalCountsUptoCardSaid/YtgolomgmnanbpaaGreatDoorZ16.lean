import Derived.Test.YtgolomgmnanbpaaGreatDoorZ11
import Derived.Test.YtgolomgmnanbpaaGreatDoorZ14
import Derived.Test.YtgolomgmnanbpaaGreatDoorZ12
import Derived.Test.YtgolomgmnanbpaaGreatDoorZ15
import Derived.Test.YtgolomgmnanbpaaGreatDoorZ03
import Derived.Test.YtgolomgmnanbpaaGreatDoorZ04
import Derived.Test.YtgolomgmnanbpaaGreatDoorZ01
namespace Go.Proofs.YtgolomgmnanbpaaGreatDoor
set_option linter.unusedVariables false
set_option linter.unusedSimpArgs false
open Go.RowKit
attribute [local go_sem] run_index_arr run_part_agg run_part_one run_field_agg
theorem ptsN_fuel : ∀ (f g : Nat) (l : List UInt8), l.length ≤ f → l.length ≤ g → ptsN f l = ptsN g l
  | 0, 0, l, _, _ => rfl
  | 0, g + 1, l, h, _ => by
    obtain rfl : l = [] := List.eq_nil_of_length_eq_zero (by omega)
    rfl
  | f + 1, 0, l, _, h => by
    obtain rfl : l = [] := List.eq_nil_of_length_eq_zero (by omega)
    rfl
  | f + 1, g + 1, l, h1, h2 => by
    cases l with
    | nil => rfl
    | cons c r =>
      rw [ptsN, ptsN, ptsN_fuel f g]
      · rw [List.length_drop]; simp at h1 ⊢; omega
      · rw [List.length_drop]; simp at h2 ⊢; omega
theorem ptsJ_step {l : List UInt8} (hne : l ≠ []) (hm : (cpBegin l).2 ≠ 0) : ptsJ l = ptsJ (l.drop (cpBegin l).2) + 1 := by
  cases l with
  | nil => exact absurd rfl hne
  | cons c r =>
    unfold ptsJ
    have e : max 1 (cpBegin (c :: r)).2 = (cpBegin (c :: r)).2 := Nat.max_eq_right (by omega)
    rw [List.length_cons, ptsN, e]
    congr 1
    refine ptsN_fuel _ _ _ ?_ (Nat.le_refl _)
    rw [List.length_drop, List.length_cons]; omega
theorem ptsJ_le (l : List UInt8) : ptsJ l ≤ l.length := by
  have : ∀ (f : Nat) (l : List UInt8), ptsN f l ≤ l.length := by
    intro f
    induction f with
    | zero => intro l; cases l <;> simp [ptsN]
    | succ f ih =>
      intro l
      cases l with
      | nil => simp [ptsN]
      | cons c r =>
        have h := ih ((c :: r).drop (max 1 (cpBegin (c :: r)).2))
        rw [List.length_drop] at h
        rw [ptsN]
        simp only [List.length_cons] at h ⊢
        omega
  exact this _ l
theorem infoIntP : (Tryz.prog.info? 3).map (fun i => (i.zero, i.size, i.bytes)) = some (some (.int .i64 0), 1, 8) := by kernel_rfl
def PtsP (base n : Nat) (xs : List Value) (p : Int) (row : Value) (w : World) (e : Ending) (w' : World) : Prop := ∃ row' : Value, e = .returned row' ∧ w'.ownsRow base 3 1 row' (n + 1) (xs ++ [.int .i64 p]) ∧ ∀ B, (∀ k, row.ownBlock = some k → B ≤ k) → B ≤ w.heap.size → Below B w w'
set_option maxRecDepth 100000 in
set_option maxHeartbeats 4000000 in
theorem uPt1 (row : Value) (base n : Nat) (xs : List Value) (p : Int) (w : World) (hown : w.ownsRow base 3 1 row n xs) (hb : base ≤ w.heap.size) (hn : n ≤ 4194304) :
    Calls Tryz.prog 170 #[row, .int .i64 p] w (PtsP base n xs p row w) := by
  obtain ⟨i0, hi, hz0, hz1, hz2⟩ := info_parts infoIntP
  have HI := Lib.hid hi
  have HO := Lib.hid (hown.alloc (.cells #[.int .i64 p] 3))
  have HR := Lib.hid (Rd.of_blk (Blk.new w 3 #[.int .i64 p]))
  have HRW := Lib.hid (And.intro (show row = row from rfl) hb)
  have HFIN := Lib.hid (fun (v' : Value) (w6 : World) (h1 : w6.ownsRow base 3 1 v' (n + 1) (xs ++ [.int .i64 p])) (h2 : (w.alloc (.cells #[.int .i64 p] 3)).grownBy w6 row.ownBlock) => show PtsP base n xs p row w (.returned v') w6 from
    ⟨v', rfl, h1, fun B hB hBw => ((Below.refl B w).alloc hBw _).grown h2 (by simp; omega) hB⟩)
  clear hi hown
  go_enter Tryz.func170, Tryz.ntmps170
  go_wp2_with (at_builtin; refine wpList_append_rd _ rfl _ _ 96 rfl base 3 i0 _ 1 8 Tryz.underlying96 HI.out hz0 hz1 hz2 rfl (by decide) row n xs rfl HO.out (some ⟨w.heap.size, 0, none⟩) 1 1 (fun h => by cases h) [.int .i64 p] rfl rfl HR.out (by intro u hu; obtain rfl := List.mem_singleton.1 hu; rfl) (by unfold maxLen; omega) (by omega) (by simp; omega) ?_; intro row2 w6 hown6 hgr6 hob6)
  have HX := Lib.hid (HFIN.out _ _ hown6 hgr6)
  clear hown6 hgr6 hob6
  go_ret
  exact HX.out
def TruL (s : List UInt8) (w : World) (e : Ending) (w' : World) : Prop := (∃ (A : Option Addr) (cap : Nat), e = .returned (.tuple #[.slice A (ptsJ s) cap, .int .i64 0, .int .i64 0])) ∧ Below w.heap.size w w'
set_option maxRecDepth 100000 in
set_option maxHeartbeats 4000000 in
theorem uThroughL (s : List UInt8) (w : World) (hG : GOK w) (hl : s.length ≤ 4194304) (hok : txtOk s = true) :
    Calls Tryz.prog 169 #[.string ⟨s.toArray⟩, .slice none 0 0, .func (.func 170) #[] #[]] w (TruL s w) := by
  obtain ⟨ba, hba⟩ : ∃ ba : ByteArray, (⟨s.toArray⟩ : ByteArray) = ba := ⟨_, rfl⟩
  have hsl : sl ba = s := by rw [← hba, sl_mk]
  rw [hba]
  obtain ⟨cap, W1, hcv, hcap, hb1, hs1, hr1⟩ := conv_bytes (P := Tryz.prog) w 9 76 5 ba Tryz.underlying9 Tryz.underlying76 Tryz.underlying5
  rw [hsl] at hr1
  have hsz : ba.size = s.length := by rw [← hsl, sl_len]
  rw [hsz] at hcv hcap
  have HR := Lib.hid hr1
  have HB1 := Lib.hid hb1
  have hlt1 : w.heap.size < W1.heap.size := by omega
  clear hr1 hb1 hsl hba hsz hs1
  have HGK := Lib.hid hG
  clear hG
  obtain ⟨tt, htt⟩ : ∃ tt, ptsJ s = tt := ⟨_, rfl⟩
  have HTT := Lib.hid htt
  have HFIN := Lib.hid (fun (A : Option Addr) (c : Nat) (w' : World) (h : Below w.heap.size w w') => show TruL s w (.returned (.tuple #[.slice A tt c, .int .i64 0, .int .i64 0])) w' from ⟨⟨A, c, by rw [htt]⟩, h⟩)
  have HOK := Lib.hid hok
  clear htt hok
  go_enter Tryz.func169, Tryz.ntmps169
  go_wp2
  go_loopg [1, 10] s.length (fun gk s1 s10 wr => ∃ (p n : Nat) (row : Value) (xs : List Value), row = s1 ∧ p ≤ s.length ∧ n ≤ p ∧ gk = s.length - p ∧ s10 = .int .i64 p ∧ Hid (txtOk (s.drop p) = true ∧ n + ptsJ (s.drop p) = tt) ∧ Hid (wr.ownsRow W1.heap.size 3 1 row n xs) ∧ Hid (Below W1.heap.size W1 wr))
  case atStart => exact ⟨0, 0, _, [], rfl, Nat.zero_le _, Nat.le_refl _, by go_num, by go_num, Lib.hid ⟨by rw [List.drop_zero]; exact HOK.out, by rw [List.drop_zero, HTT.out]; omega⟩, Lib.hid (World.ownsRow_nil _ _ _ _), Lib.hid (Below.refl _ _)⟩
  case round =>
    obtain ⟨p, n, row, xs, rfl, hp, hnp, hgk, rfl, HQ, HO, HW⟩ := hrel
    have HG := Lib.hid hgk
    clear hgk
    by_cases hlt : p < s.length
    · obtain ⟨c, m, hcm⟩ : ∃ c m, cpBegin (s.drop p) = (c, m) := ⟨_, _, rfl⟩
      have hne : s.drop p ≠ [] := by intro e; have h := congrArg List.length e; rw [List.length_drop] at h; simp at h; omega
      have hle := cpBegin_le4 (s.drop p)
      have hst := txtOk_step hne
      have hps := fun h => ptsJ_step hne h
      rw [hcm] at hle hst hps
      rw [List.length_drop] at hle
      have hpn : p + m ≤ s.length := by have := hle.1; simp only at this; omega
      have hm4 : m ≤ 4 := hle.2
      rw [List.drop_drop] at hst hps
      have hm0 : m ≠ 0 := fun e => by
        have h := HQ.out.1
        rw [hst, if_pos e] at h; cases h
      have hW := HB1.out.trans (HW.out.mono HB1.out.size)
      have hcell : ∀ i x, (s.drop p)[i]? = some x → wr.cell? ⟨w.heap.size, p + i, none⟩ = some (.int .u8 x.toNat) := fun i x hx => by
        rw [List.getElem?_drop] at hx
        have h := BS.at_ (n := 0) (cap := 0) (HR.out.below HW.out) hx
        rwa [Nat.zero_add] at h
      have hNX := next_any w.heap.size p (cap - p) (s.drop p) wr hne (HGK.out.keep hW) (by have := HW.out.size; omega) hcell (by rw [List.length_drop]; omega) (by rw [List.length_drop]; omega)
      rw [hcm, List.length_drop] at hNX
      have HNX := Lib.hid hNX
      have hcapp : ¬ cap = p := by omega
      have HQ2 := Lib.hid (show txtOk (s.drop (p + m)) = true ∧ n + 1 + ptsJ (s.drop (p + m)) = tt by
        obtain ⟨q1, q2⟩ := HQ.out
        refine ⟨by rw [hst, if_neg hm0] at q1; exact q1, ?_⟩
        rw [hps hm0] at q2
        simp only at q2
        omega)
      have hm1 : ((m : Int) == 0) = false := by simp; omega
      clear hNX hcell hW hcm hne hle hst hps
      go_wp2_with fail
      refine HNX.out.mono ?_
      rintro e w1 ⟨rfl, hb2⟩
      have HO2 := Lib.hid (ownBel HO.out hb2)
      have HW2 := Lib.hid (HW.out.trans (hb2.mono HW.out.size))
      have HLT := Lib.hid (fun (k : Nat) (h : row.ownBlock = some k) => (HO.out.lt k h).1)
      clear hb2
      go_wp2_with fail
      refine (uPt1 row W1.heap.size n xs c w1 HO2.out HW2.out.size (by omega)).mono ?_
      rintro e w2 ⟨row2, rfl, hown, hbel⟩
      have HO3 := Lib.hid hown
      have HW3 := Lib.hid (HW2.out.trans (hbel W1.heap.size HLT.out HW2.out.size))
      clear hown hbel
      go_wp2
      go_roundg (s.length - (p + m))
      case measure => rw [HG.out]; omega
      case rel => exact ⟨p + m, n + 1, row2, _, rfl, hpn, by omega, rfl, by go_num, HQ2, HO3, HW3⟩
    · obtain rfl : p = s.length := by omega
      have hn : n = tt := by
        have h := HQ.out.2
        rw [List.drop_length] at h
        have : ptsJ [] = 0 := rfl
        omega
      subst hn
      obtain ⟨RA, rc, rfl, _⟩ := own_parts HO.out
      go_wp2
      go_ret3
      exact HFIN.out _ _ _ (HB1.out.trans (HW.out.mono HB1.out.size))
set_option maxRecDepth 100000 in
set_option maxHeartbeats 4000000 in
theorem uPoints (s : List UInt8) (w : World) (hG : GOK w) (hl : s.length ≤ 4194304) (hok : txtOk s = true) : Calls Tryz.prog 125 #[.string ⟨s.toArray⟩] w (TruL s w) := by
  have HT := Lib.hid (uThroughL s w hG hl hok)
  clear hl hG hok
  obtain ⟨er, her⟩ : ∃ er, ptsJ s = er := ⟨_, rfl⟩
  unfold TruL at HT ⊢
  rw [her] at HT ⊢
  clear her
  go_enter Tryz.func125, Tryz.ntmps125
  go_wp2_with fail
  refine HT.out.mono ?_
  rintro e w1 ⟨⟨A, c, rfl⟩, hb⟩
  have HB := Lib.hid hb
  clear hb
  go_wp2
  go_ret3
  exact ⟨⟨_, _, rfl⟩, HB.out⟩
end Go.Proofs.YtgolomgmnanbpaaGreatDoor
namespace Go.Proofs.YtgolomgmnanbpaaGreatDoor
set_option linter.unusedVariables false
set_option linter.unusedSimpArgs false
open Go.RowKit
attribute [local go_sem] run_index_arr run_part_agg run_part_one run_field_agg
theorem good_txt {n : Int} {s : List UInt8} {kids : List JV} {keys : List (List UInt8)} (h : good (.mk 4 n s kids keys) = true) : txtOk s = true := by
  have h1 := (goodJ_out (good_J h).1).1
  unfold goodA at h1
  simp at h1
  exact h1.1.1.2
set_option maxRecDepth 100000 in
set_option maxHeartbeats 4000000 in
theorem mSize {pv : Value} {F : Nat → Prop} {env : List (List UInt8 × JV)} {w : World} {k : Int} {v : JV} {s : List UInt8} {y : EJ} {r : List EJ} {cs : List Value} (hG : GOE w) (hF : ∀ b, F b → b < w.heap.size) (hk : KidC pv F env w y) (hx : ER w F cs (.mk k v s (y :: r))) :
    Calls Tryz.prog 76 #[pv, .agg cs.toArray] w (ExP (match evE env y with | some a => sizeJ a | none => none) F w) := by
  obtain ⟨k1, n1, s1, A1, na1, ca1, B1, nb1, cb1, A, ca, css, rfl, hv, h1, h2, h3, h4⟩ := hx.out
  obtain ⟨b, o, kx, px, nx, sx, Ax, nax, cax, Bx, nbx, cbx, tx, Cx, ncx, ccx, rfl, hb, hER, hz⟩ := kid_cellsE h1 h4 (i := 0) (x := y) rfl
  have HKC := Lib.hid (fun (W : World) (h : Below w.heap.size w W) => hk W _ h (hER.bel h))
  have HZZ := Lib.hid (fun (W : World) (h : Below w.heap.size w W) => hz W h)
  obtain ⟨nr, hnr⟩ : ∃ q, (y :: r).length = q := ⟨_, rfl⟩
  have hnr1 : 1 ≤ nr := by rw [← hnr]; simp
  rw [hnr] at h2 ⊢
  have HLB := Lib.hid hb
  obtain ⟨o0, ho0⟩ : ∃ o, evE env y = o := ⟨_, rfl⟩
  rw [ho0] at HKC ⊢
  have HH0 := Lib.hid (((Held.nil w).push 28 #[.int .i64 k, .int .i64 k1, .int .i64 n1, .string s1, .slice A1 na1 ca1, .slice B1 nb1 cb1, .string ⟨s.toArray⟩, .slice (some ⟨b, o, none⟩) nr ca] (g := w.heap.size) rfl).push 25 #[.int .i64 0, .int .i64 0, .string ⟨#[]⟩, .slice none 0 0, .slice none 0 0] (g := w.heap.size + 1) (by simp))
  have HG := Lib.hid hG
  have HFF := Lib.hid hF
  clear hk hx hv h1 h2 h3 h4 hER hz hb hnr ho0 hG hF
  obtain ⟨op, hop⟩ : ∃ p, (match o0 with | some a => sizeJ a | none => none) = p := ⟨_, rfl⟩
  have HOP := Lib.hid hop
  rw [hop]
  clear hop
  obtain ⟨c0, f0, l0⟩ := HH0.out.b1.rules
  obtain ⟨z0, z1, z2, z3, z4, z5, z6, z7⟩ := HZZ.out _ (Below.refl _ _)
  simp only [Nat.zero_mul, Nat.add_zero] at z0 z1 z2 z3 z4 z5 z6 z7
  have lb := HLB.out
  go_enter Tryz.func76, Tryz.ntmps76
  go_wp2_with fail
  refine (HKC.out _ HH0.out.1).mono ?_
  rintro e w1 ⟨cs1, v1, b1, rfl, hv1, hc1, ho, hg1, hb1⟩
  obtain ⟨vk, vn, vs, vkids, vkeys⟩ := v1
  obtain ⟨VA, VB, va, vb, vcss, rfl, _⟩ := hv1.out
  have hkl : vkids.length ≤ 4194304 := hc1.out.2.2.2.1
  have hsl : vs.length ≤ 4194304 := hc1.out.2.2.1
  obtain ⟨nk, hnk⟩ : ∃ q, vkids.length = q := ⟨_, rfl⟩
  obtain ⟨ny, hny⟩ : ∃ q, vkeys.length = q := ⟨_, rfl⟩
  rw [hnk] at hkl
  have HNK := Lib.hid hnk
  rw [hnk, hny]
  have HH1 := Lib.hid ((HH0.out.keep hb1).push 25 #[.int .i64 vk, .int .i64 vn, .string ⟨vs.toArray⟩, .slice VA nk va, .slice VB ny vb] (g := w1.heap.size) rfl)
  have HO := Lib.hid ho
  have HGD := Lib.hid hg1
  have hsz : w.heap.size + 2 ≤ w1.heap.size := by have := hb1.size; simpa using this
  clear hb1 c0 f0 l0 hv1 hc1 ho hg1 z0 z1 z2 z3 z4 z5 z6 z7 lb hnk hny
  obtain ⟨c0, f0, l0⟩ := HH1.out.b0.rules
  obtain ⟨c2, f2, l2⟩ := HH1.out.b1.rules
  cases b1
  · go_wp2_with fail
    refine (mNone _).mono ?_
    rintro e wn ⟨rfl, hbn⟩
    have HHN := Lib.hid (HH1.out.keep hbn)
    clear hbn c0 f0 l0 c2 f2 l2
    obtain ⟨c1, f1, l1⟩ := HHN.out.b1.rules
    go_wp2
    refine bodyPost_ret (v := .tuple #[.agg #[.int .i64 0, .int .i64 0, .string ⟨#[]⟩, .slice none 0 0, .slice none 0 0], .bool false]) (by simp only [results, Tryz.results76]; go_simp) rfl ?_
    exact ExP.none_ (w1 := w) (by rw [← HOP.out, HO.out]; rfl) (five_bel HHN.out.1 (by omega) _ _ _ _ _)
  · have HOQ := Lib.hid (show op = sizeJ (.mk vk vn vs vkids vkeys) by rw [← HOP.out, HO.out]; rfl)
    by_cases h4 : vk = 4
    · subst h4
      have HPT := Lib.hid (uPoints vs _ (HG.out.keep HH1.out.1).gok hsl (good_txt (HGD.out rfl)))
      have hpl := ptsJ_le vs
      have HOZ := Lib.hid (show op = some (jNum (ptsJ vs)) by rw [HOQ.out]; rfl)
      obtain ⟨pp, hpp⟩ : ∃ q, ptsJ vs = q := ⟨_, rfl⟩
      unfold TruL at HPT
      rw [hpp] at HPT hpl HOZ
      clear hpp
      go_wp2_with fail
      refine HPT.out.mono ?_
      rintro e w2 ⟨⟨RA, rc, rfl⟩, hb2⟩
      have HH2 := Lib.hid (HH1.out.keep hb2)
      clear hb2 c0 f0 l0 c2 f2 l2
      go_wp2_with fail
      refine (vIntV (pp : Int) _).mono ?_
      rintro e w3 ⟨rfl, hb3⟩
      have HH3 := Lib.hid (HH2.out.keep hb3)
      clear hb3
      obtain ⟨c9, f9, l9⟩ := HH3.out.b1.rules
      go_wp2
      refine bodyPost_ret (v := .tuple #[.agg #[.int .i64 3, .int .i64 (pp : Int), .string ⟨#[]⟩, .slice none 0 0, .slice none 0 0], .bool true]) (by simp only [results, Tryz.results76]; go_simp) rfl ?_
      exact ExP.num_ (by unfold iw; omega) HOZ.out (five_bel HH3.out.1 (by omega) _ _ _ _ _)
    · have e4 : (vk == 4) = false := by simp [h4]
      by_cases h5 : vk < 5
      · have HOZ := Lib.hid (show op = none by rw [HOQ.out]; show (if vk = 4 then _ else if 5 ≤ vk then _ else none) = none; rw [if_neg h4, if_neg (by omega)])
        clear h4
        go_wp2_with fail
        refine (mNone _).mono ?_
        rintro e wn ⟨rfl, hbn⟩
        have HHN := Lib.hid (HH1.out.keep hbn)
        clear hbn c0 f0 l0 c2 f2 l2
        obtain ⟨c1, f1, l1⟩ := HHN.out.b1.rules
        go_wp2
        refine bodyPost_ret (v := .tuple #[.agg #[.int .i64 0, .int .i64 0, .string ⟨#[]⟩, .slice none 0 0, .slice none 0 0], .bool false]) (by simp only [results, Tryz.results76]; go_simp) rfl ?_
        exact ExP.none_ (w1 := w) HOZ.out (five_bel HHN.out.1 (by omega) _ _ _ _ _)
      · have HOZ := Lib.hid (show op = some (jNum nk) by rw [HOQ.out]; show (if vk = 4 then _ else if 5 ≤ vk then some (jNum vkids.length) else none) = _; rw [if_neg h4, if_pos (by omega), HNK.out])
        clear h4
        go_wp2_with fail
        refine (vIntV (nk : Int) _).mono ?_
        rintro e w3 ⟨rfl, hb3⟩
        have HH3 := Lib.hid (HH1.out.keep hb3)
        clear hb3 c0 f0 l0 c2 f2 l2
        obtain ⟨c9, f9, l9⟩ := HH3.out.b1.rules
        go_wp2
        refine bodyPost_ret (v := .tuple #[.agg #[.int .i64 3, .int .i64 (nk : Int), .string ⟨#[]⟩, .slice none 0 0, .slice none 0 0], .bool true]) (by simp only [results, Tryz.results76]; go_simp) rfl ?_
        exact ExP.num_ (by unfold iw; omega) HOZ.out (five_bel HH3.out.1 (by omega) _ _ _ _ _)
end Go.Proofs.YtgolomgmnanbpaaGreatDoor
namespace Go.Proofs.YtgolomgmnanbpaaGreatDoor
set_option linter.unusedVariables false
set_option linter.unusedSimpArgs false
open Go.RowKit
mutual
/-- no expression within has too many kids -/
def smlE : EJ → Prop | .mk _ _ _ kids => kids.length ≤ 16000 ∧ smlEL kids
def smlEL : List EJ → Prop | [] => True | x :: r => smlE x ∧ smlEL r
end
theorem smlEL_iff : ∀ {xs : List EJ}, smlEL xs ↔ ∀ x ∈ xs, smlE x
  | [] => by simp [smlEL]
  | x :: r => by simp [smlEL, smlEL_iff (xs := r)]
def MacOk (mb : Nat) (F : Nat → Prop) (env : List (List UInt8 × JV)) (w : World) : Prop :=
  GOE w ∧ (∀ b, F b → b < w.heap.size) ∧ (∃ (p mv : Value) (EA : Option Addr) (ec : Nat) (ecs : List (List Value)), Blk w mb 88 #[p, .slice EA env.length ec, mv] ∧ BnRs w F ecs env ∧ env.length ≤ ec ∧ RdF w F EA ecs.flatten) ∧ env.length ≤ 4194304 ∧ ∀ b ∈ env, good b.2 = true ∧ Came b.2
theorem MacOk.keep {mb : Nat} {F : Nat → Prop} {env : List (List UInt8 × JV)} {w W : World} (h : MacOk mb F env w) (hb : Below w.heap.size w W) : MacOk mb F env W := by
  obtain ⟨h1, h2, ⟨p, mv, EA, ec, ecs, h3, h4, h5, h6⟩, h7, h8⟩ := h
  exact ⟨h1.keep hb, fun b hf => Nat.lt_of_lt_of_le (h2 b hf) hb.size, ⟨p, mv, EA, ec, ecs, h3.keep hb, RR.imp h4 fun c x hc => hc.keep (KeepF.of_below hb), h5, h6.keep (KeepF.of_below hb)⟩, h7, h8⟩
theorem comb3 {env : List (List UInt8 × JV)} {v : JV} {s : List UInt8} {a : Option JV} {l : List (Option JV)} : combJ env 3 v s (a :: l) = (match a with | some a => getJ a s | none => none) := by cases a <;> rfl
theorem comb5 {env : List (List UInt8 × JV)} {v : JV} {s : List UInt8} {a : Option JV} {l : List (Option JV)} : combJ env 5 v s (a :: l) = (isB a).map fun b => jBool (!b) := by cases a <;> rfl
theorem comb6 {env : List (List UInt8 × JV)} {v : JV} {s : List UInt8} {a : Option JV} {l : List (Option JV)} : combJ env 6 v s (a :: l) = (match a with | some a => sizeJ a | none => none) := by cases a <;> rfl
theorem comb7 {env : List (List UInt8 × JV)} {v : JV} {s : List UInt8} {a : Option JV} {l : List (Option JV)} : combJ env 7 v s (a :: l) = a.map fun a => jText (kindT a.kind) := by cases a <;> rfl
theorem comb4 {env : List (List UInt8 × JV)} {v : JV} {s : List UInt8} {l : List (Option JV)} : combJ env 4 v s l = listJ l := rfl
theorem combN {env : List (List UInt8 × JV)} {v : JV} {s : List UInt8} {a b : Option JV} {l : List (Option JV)} :
    combJ env 8 v s (a :: b :: l) = numB (fun a b : Int => a * b) a b ∧ combJ env 9 v s (a :: b :: l) = numB (fun a b : Int => a + b) a b ∧ combJ env 10 v s (a :: b :: l) = numB (fun a b : Int => a - b) a b := by
  refine ⟨?_, ?_, ?_⟩ <;> (cases a <;> cases b <;> rfl)
theorem combO {env : List (List UInt8 × JV)} {v : JV} {s : List UInt8} {a b : Option JV} {l : List (Option JV)} :
    combJ env 11 v s (a :: b :: l) = ordB (fun n : Int => n == 0) a b ∧ combJ env 12 v s (a :: b :: l) = ordB (fun n : Int => decide (n < 0)) a b ∧ combJ env 13 v s (a :: b :: l) = ordB (fun n : Int => decide (n ≤ 0)) a b := by
  refine ⟨?_, ?_, ?_⟩ <;> (cases a <;> cases b <;> rfl)
theorem combE {env : List (List UInt8 × JV)} {v : JV} {s : List UInt8} {a b : Option JV} {l : List (Option JV)} :
    combJ env 14 v s (a :: b :: l) = eitJ false (isB a) (isB b) ∧ combJ env 15 v s (a :: b :: l) = eitJ true (isB a) (isB b) := by
  constructor
  · cases a with
    | none => rfl
    | some a =>
      show (match isB (some a) with | none => none | some t => if t = decide ((14 : Int) = 15) then some (jBool t) else (isB b).map jBool) = _
      unfold eitJ
      cases isB (some a) with
      | none => rfl
      | some t => cases t <;> (first | rfl | (cases isB b <;> rfl))
  · cases a with
    | none => rfl
    | some a =>
      show (match isB (some a) with | none => none | some t => if t = decide ((15 : Int) = 15) then some (jBool t) else (isB b).map jBool) = _
      unfold eitJ
      cases isB (some a) with
      | none => rfl
      | some t => cases t <;> (first | rfl | (cases isB b <;> rfl))
def ForX (r : Nat) : Prop := ∀ (mb : Nat) (F : Nat → Prop) (env : List (List UInt8 × JV)) (w : World) (x : EJ) (cs : List Value), MacOk mb F env w → deepE r x ≠ 0 → camE x → smlE x → ER w F cs x →
  Calls Tryz.prog 41 #[.pointer (some ⟨mb, 0, none⟩), .agg cs.toArray] w (ExP (evE env x) F w)
theorem ExP.later {o : Option JV} {F : Nat → Prop} {w : World} {e : Ending} {w' : World} (h : ExP o F w e w') : ExP o F w e w' := h
theorem mExprS (r : Nat) (ih : ForX r) : ForX (r + 1) := by
  intro mb F env w x cs hM hd hc hs hx
  obtain ⟨k, v, s, kids⟩ := x
  obtain ⟨_, hok, hkd⟩ := deepE_out hd
  obtain ⟨hk1, hk15, hlit, h3, h8⟩ := okX_kind hok
  have hc' := hc
  unfold camE at hc'
  obtain ⟨_, hcv, hsl, hck, hcl⟩ := hc'
  have hcl := camEL_iff.1 hcl
  unfold smlE at hs
  have hsk := smlEL_iff.1 hs.2
  have HK : ∀ W, Below w.heap.size w W → ∀ y ∈ kids, KidC (.pointer (some ⟨mb, 0, none⟩)) F env W y := fun W h y hy W' cs' h' hy' =>
    ih mb F env W' y cs' (hM.keep (h.trans (h'.mono h.size))) (hkd y hy) (hcl y hy) (hsk y hy) hy'
  have hev : evE env (.mk k v s kids) = combJ env k v s (kids.map (evE env)) := by rw [evE, evL_map]
  rw [hev]
  obtain ⟨k1, n1, s1, A1, na1, ca1, B1, nb1, cb1, A, ca, css, rfl, _⟩ := hx.out
  refine mExprK k k1 n1 s1 A1 na1 ca1 B1 nb1 cb1 _ A kids.length ca ⟨hk1, hk15⟩ hM.2.1 fun W hW => ?_
  have hxW := hx.bel hW
  have hMW := hM.keep hW
  have hKW := HK W hW
  have hFW := hMW.2.1
  have one : (k = 3 ∨ 5 ≤ k ∧ k ≤ 7) → ∃ y, kids = [y] := fun h => List.length_eq_one_iff.1 (h3 h)
  have two : 8 ≤ k → ∃ y z, kids = [y, z] := fun h => by
    have h2 := h8 h
    match kids, h2 with
    | [y, z], _ => exact ⟨y, z, rfl⟩
  rcases (by omega : k = 1 ∨ k = 2 ∨ k = 3 ∨ k = 4 ∨ k = 5 ∨ k = 6 ∨ k = 7 ∨ k = 8 ∨ k = 9 ∨ k = 10 ∨ k = 11 ∨ k = 12 ∨ k = 13 ∨ k = 14 ∨ k = 15) with rfl | rfl | rfl | rfl | rfl | rfl | rfl | rfl | rfl | rfl | rfl | rfl | rfl | rfl | rfl
  · have hl := hlit rfl
    unfold litOk at hl
    rw [Bool.and_eq_true] at hl
    exact mLiteral hFW hxW hl.1 hcv
  · obtain ⟨_, _, ⟨p, mv, EA, ec, ecs, m1, m2, m3, m4⟩, m5, m6⟩ := hMW
    exact mName mb ecs env.length ec EA p mv hFW m1 m2 rfl m3 m4 m5 m6 hxW
  · obtain ⟨y, rfl⟩ := one (.inl rfl)
    rw [List.map_cons, comb3]
    exact mPath hMW.1 hFW (hKW y List.mem_cons_self) hxW
  · rw [comb4]
    exact mList hMW.1 hFW hKW hxW hs.1
  · obtain ⟨y, rfl⟩ := one (.inr ⟨by decide, by decide⟩)
    rw [List.map_cons, comb5]
    exact mNot (hKW y List.mem_cons_self).bool hxW
  · obtain ⟨y, rfl⟩ := one (.inr ⟨by decide, by decide⟩)
    rw [List.map_cons, comb6]
    exact mSize hMW.1 hFW (hKW y List.mem_cons_self) hxW
  · obtain ⟨y, rfl⟩ := one (.inr ⟨by decide, by decide⟩)
    rw [List.map_cons, comb7]
    exact mKind hMW.1 hFW (hKW y List.mem_cons_self) hxW
  all_goals
    obtain ⟨y, z, rfl⟩ := two (by decide)
    have hy := hKW y List.mem_cons_self
    have hz := hKW z (List.mem_cons_of_mem _ List.mem_cons_self)
    rw [List.map_cons, List.map_cons]
  · rw [combN.1]; exact mMul hy hz hFW hxW
  · rw [combN.2.1]; exact mAdd hy hz hFW hxW
  · rw [combN.2.2]; exact mSub hy hz hFW hxW
  · rw [combO.1]; exact mSame hMW.1 hy hz hFW hxW
  · rw [combO.2.1]; exact mLess hMW.1 hy hz hFW hxW
  · rw [combO.2.2]; exact mMost hMW.1 hy hz hFW hxW
  · rw [combE.1]; exact mAnd hy.bool hz.bool hFW hxW
  · rw [combE.2]; exact mOr hy.bool hz.bool hFW hxW
theorem mExpr : ∀ r, ForX r
  | 0 => fun mb F env w x cs hM hd => absurd (by cases x; rw [deepE, if_pos rfl]) hd
  | r + 1 => mExprS r (mExpr r)
end Go.Proofs.YtgolomgmnanbpaaGreatDoor
namespace Go.Proofs.YtgolomgmnanbpaaGreatDoor
set_option linter.unusedVariables false
set_option linter.unusedSimpArgs false
theorem bulk_arith0 {D C a b p q z : Nat} (h1 : a + D ≤ C * p) (h2 : b + D * z ≤ C * q) : a + b + D * (z + 1) ≤ C * (p + q) := by
  have h := Nat.add_le_add h1 h2
  have e : C * (p + q) = C * p + C * q := Nat.mul_add _ _ _
  have e2 : D * (z + 1) = D * z + D := Nat.mul_succ _ _
  omega
theorem bulk_arith {a b p q z : Nat} (h1 : a + 4194305 ≤ 8388610 * p) (h2 : b + 4194305 * z ≤ 8388610 * q) : a + b + 4194305 * (z + 1) ≤ 8388610 * (p + q) := bulk_arith0 h1 h2
theorem bulkK_keys : ∀ (ks : List (List UInt8)), (∀ t ∈ ks, t.length ≤ 4194304) → bulkK ks ≤ 4194305 * ks.length
  | [], _ => by simp [bulkK]
  | k :: r, h => by
    have h1 := h k List.mem_cons_self
    have h2 := bulkK_keys r (fun t ht => h t (List.mem_cons_of_mem _ ht))
    have e1 : bulkK (k :: r) = k.length + 1 + bulkK r := by rw [bulkK]
    have e3 : (k :: r).length = r.length + 1 := rfl
    omega
mutual
theorem bulk_nodes : ∀ (v : JV) (d : Nat), goodJ d v = true → lenJ v → bulkJ v + 4194305 ≤ 8388610 * nodesJ v
  | .mk k n s kids keys, d, hg, hl => by
    obtain ⟨h1, _, h3⟩ := goodJ_out hg
    obtain ⟨hk1, hk2⟩ := keyed h1
    unfold lenJ at hl
    have hb := bulkK_keys keys hl.2.2.2.1
    have hL := bulkL_nodes kids (d - 1) h3 hl.2.2.2.2
    have hle : keys.length ≤ kids.length := by
      by_cases h6 : k = 6
      · rw [hk1 h6]; exact Nat.le_refl _
      · rw [hk2 h6]; exact Nat.zero_le _
    have : 4194305 * keys.length ≤ 4194305 * kids.length := Nat.mul_le_mul_left _ hle
    unfold bulkJ nodesJ
    omega
theorem bulkL_nodes : ∀ (xs : List JV) (d : Nat), goodL d xs = true → lenL xs → bulkL xs + 4194305 * xs.length ≤ 8388610 * nodesL xs
  | [], d, _, _ => by simp [bulkL, nodesL]
  | x :: r, d, hg, hl => by
    unfold goodL at hg
    rw [Bool.and_eq_true] at hg
    unfold lenL at hl
    have h1 := bulk_nodes x d hg.1 hl.1
    have h2 := bulkL_nodes r d hg.2 hl.2
    have e1 : bulkL (x :: r) = bulkJ x + bulkL r := by rw [bulkL]
    have e2 : nodesL (x :: r) = nodesJ x + nodesL r := by rw [nodesL]
    rw [List.length_cons]
    simp only [e1, e2]
    exact bulk_arith h1 h2
end
end Go.Proofs.YtgolomgmnanbpaaGreatDoor
namespace Go.Proofs.YtgolomgmnanbpaaGreatDoor
set_option linter.unusedVariables false
set_option linter.unusedSimpArgs false
open Go.RowKit
attribute [local go_sem] run_index_arr run_part_agg run_part_one run_field_agg
theorem index_strK {s : List UInt8} {i : Nat} {a : UInt8} (ha : s[i]? = some a) (W : World) : (Instr.index 9 (.string ⟨s.toArray⟩) (.int .i64 (i : Int))).run Tryz.prog W = .ok (.int .u8 a.toNat) W := by
  obtain ⟨hi, e⟩ := List.getElem?_eq_some_iff.1 ha
  have hsz : (ByteArray.mk s.toArray).size = s.length := by simp [ByteArray.size]
  rw [run_index_string W 9 ⟨s.toArray⟩ .i64 (i : Int) Tryz.underlying9, dif_pos ⟨by omega, by rw [hsz]; omega⟩]
  subst e
  rfl
theorem infoByteK : (Tryz.prog.info? 5).map (fun i => (i.zero, i.size, i.bytes)) = some (some (.int .u8 0), 1, 1) := by kernel_rfl
def OwnB (base : Nat) (row : Value) (n : Nat) (l : List UInt8) (w : World) : Prop := l.length = n ∧ w.ownsRow base 5 1 row n (byteV l) ∧ base ≤ w.heap.size
theorem OwnB.nil (w : World) : OwnB w.heap.size (.slice none 0 0) 0 [] w := ⟨rfl, World.ownsRow_nil _ _ _ _, Nat.le_refl _⟩
theorem OwnB.bel {base n : Nat} {row : Value} {l : List UInt8} {w w' : World} (h : OwnB base row n l w) (hb : Below w.heap.size w w') : OwnB base row n l w' := ⟨h.1, ownBel h.2.1 hb, Nat.le_trans h.2.2 hb.size⟩
def Gr (row : Value) (w : World) (row' : Value) (w' : World) : Prop := w.grownBy w' row.ownBlock ∧ (row'.ownBlock = row.ownBlock ∨ ∃ k, row'.ownBlock = some k ∧ w.heap.size ≤ k)
theorem Gr.refl (row : Value) (w : World) : Gr row w row w := ⟨World.grownBy.refl w _, .inl rfl⟩
theorem Gr.trans {a b c : Value} {w w1 w2 : World} (h : Gr a w b w1) (k : Gr b w1 c w2) : Gr a w c w2 := by
  obtain ⟨h1, h2⟩ := h
  obtain ⟨k1, k2⟩ := k
  refine ⟨⟨k1.os.trans h1.os, k1.tape.trans h1.tape, k1.output.trans h1.output, Nat.le_trans h1.size k1.size, fun i hi hne => (k1.block i (Nat.lt_of_lt_of_le hi h1.size) ?_).trans (h1.block i hi hne)⟩, ?_⟩
  · rcases h2 with h2 | ⟨q, h2, h3⟩
    · rw [h2]; exact hne
    · rw [h2]; intro e; injection e with e; omega
  · rcases k2 with k2 | ⟨q, k2, k3⟩
    · rcases h2 with h2 | ⟨q', h2, h3⟩
      · exact .inl (k2.trans h2)
      · exact .inr ⟨q', k2.trans h2, h3⟩
    · exact .inr ⟨q, k2, Nat.le_trans h1.size k3⟩
theorem Gr.bel {row : Value} {w w' : World} (h : Below w.heap.size w w') : Gr row w row w' := ⟨gbBel h _, .inl rfl⟩
theorem Gr.size {a b : Value} {w w' : World} (h : Gr a w b w') : w.heap.size ≤ w'.heap.size := h.1.size
theorem Gr.keepF {a b : Value} {w w' : World} {F : Nat → Prop} (h : Gr a w b w') (hF : ∀ k, F k → some k ≠ a.ownBlock) : KeepF F w w' := ⟨h.1.size, fun k hf hk => h.1.block k hk (hF k hf)⟩
theorem Gr.blk {a b : Value} {w w' : World} {g : Nat} {t : TypeId} {cs : Array Value} (h : Gr a w b w') (hb : Blk w g t cs) (hg : some g ≠ a.ownBlock) : Blk w' g t cs := (h.1.block g hb.lt hg).trans hb
theorem Gr.below {a b : Value} {w w' : World} {base : Nat} (h : Gr a w b w') (hb : base ≤ w.heap.size) (ho : ∀ k, a.ownBlock = some k → base ≤ k) : Below base w w' := (Below.refl base w).grown h.1 hb ho
theorem OwnB.post {base n M : Nat} {row row2 : Value} {l m : List UInt8} {w w6 : World} {o : Obj} (h : OwnB base row n l w) (hown : w6.ownsRow base 5 1 row2 (n + M) (byteV l ++ byteV m)) (hM : m.length = M) (hgr : (w.alloc o).grownBy w6 row.ownBlock) (hob : row2.ownBlock = row.ownBlock ∨ row2.ownBlock = some (w.alloc o).heap.size) : OwnB base row2 (n + M) (l ++ m) w6 ∧ Gr row w row2 w6 := by
  have hg : Gr row w row2 w6 := (Gr.bel ((Below.refl _ w).alloc (Nat.le_refl _) o)).trans ⟨hgr, hob.imp id fun e => ⟨_, e, Nat.le_refl _⟩⟩
  exact ⟨⟨by rw [List.length_append, h.1, hM], by rw [byteV_app]; exact hown, Nat.le_trans h.2.2 hg.size⟩, hg⟩
def LayP (base : Nat) (m : List UInt8) (row : Value) (w : World) (e : Ending) (w' : World) : Prop := ∃ row' n', e = .returned row' ∧ OwnB base row' n' m w' ∧ Gr row w row' w'
def encT (s : List UInt8) : List UInt8 := s.flatMap fun c => if c = 0 then [0, 255] else [c]
theorem encT_len (s : List UInt8) : (encT s).length ≤ 2 * s.length := by
  induction s with
  | nil => simp [encT]
  | cons c r ih =>
    unfold encT at ih ⊢
    rw [List.flatMap_cons, List.length_append, List.length_cons]
    split
    · show 2 + _ ≤ _; omega
    · show 1 + _ ≤ _; omega
theorem codeT_enc (s : List UInt8) : codeT s = 5 :: (encT s ++ [0, 0]) := rfl
set_option maxRecDepth 100000 in
set_option maxHeartbeats 4000000 in
theorem kLayText (row : Value) (base n : Nat) (l s : List UInt8) (w : World) (h : OwnB base row n l w) (hn : n ≤ 100000000000) (hs : s.length ≤ 4194304) :
    Calls Tryz.prog 102 #[row, .string ⟨s.toArray⟩] w (LayP base (l ++ codeT s) row w) := by
  obtain ⟨i0, hi, hz0, hz1, hz2⟩ := info_parts infoByteK
  have HI := Lib.hid hi
  have HO := Lib.hid h
  obtain ⟨ns, hns⟩ : ∃ q, s.length = q := ⟨_, rfl⟩
  have hsz : (ByteArray.mk s.toArray).size = ns := by rw [← hns]; simp [ByteArray.size]
  have HIX := Lib.hid (fun (i : Nat) (a : UInt8) (ha : s[i]? = some a) W => index_strK ha W)
  have HN := Lib.hid hns
  obtain ⟨S, hS⟩ : ∃ S : ByteArray, ⟨s.toArray⟩ = S := ⟨_, rfl⟩
  rw [hS] at HIX hsz ⊢
  rw [hns] at hs
  have HFIN := Lib.hid (fun (r : Value) (m : Nat) (w' : World) (ho : OwnB base r m (l ++ 5 :: (encT s ++ [0, 0])) w') (hb : Gr row w r w') => show LayP base (l ++ codeT s) row w (.returned r) w' from ⟨r, m, rfl, ho, hb⟩)
  clear hi h hns hS
  go_enter Tryz.func102, Tryz.ntmps102
  have HA2 := Lib.hid (HO.out.2.1.alloc (.cells #[.int .u8 5] 5))
  have HR2 := Lib.hid (Rd.of_blk (Blk.new w 5 #[.int .u8 5]))
  have HB2 := Lib.hid (show base ≤ (w.alloc (.cells #[.int .u8 5] 5)).heap.size by have := HO.out.2.2; simp; omega)
  go_wp2_with (at_builtin; refine wpList_append_rd _ rfl _ _ 76 rfl base 5 i0 _ 1 1 Tryz.underlying76 HI.out hz0 hz1 hz2 rfl (by decide) row n (byteV l) rfl HA2.out (some ⟨w.heap.size, 0, none⟩) 1 1 (fun h => by cases h) [.int .u8 5] rfl rfl HR2.out (byteV_one [5]) (by unfold maxLen; omega) (by omega) HB2.out ?_; intro row2 w2 hown2 hgr2 hob2)
  have H2P := Lib.hid (HO.out.post (m := [5]) (M := 1) hown2 rfl hgr2 hob2)
  clear hown2 hgr2 hob2
  go_loopg [0, 11] ns (fun gk s0 s11 wr => ∃ (i m : Nat) (r : Value), r = s0 ∧ i ≤ ns ∧ m ≤ n + 1 + 2 * i ∧ gk = ns - i ∧ s11 = .int .i64 (i : Int) ∧ Hid (OwnB base r m (l ++ 5 :: encT (s.take i)) wr) ∧ Hid (Gr row w r wr))
  case atStart => exact ⟨0, n + 1, _, rfl, Nat.zero_le _, by omega, by go_num, rfl, Lib.hid H2P.out.1, Lib.hid H2P.out.2⟩
  case round =>
    obtain ⟨i, m, r, rfl, hin, hm, hgk, rfl, HOW, HBW⟩ := hrel
    have HG := Lib.hid hgk
    clear hgk H2P HA2 HR2 HB2 HO
    by_cases hlt : i < ns
    · obtain ⟨c, hc⟩ : ∃ c, s[i]? = some c := ⟨_, List.getElem?_eq_getElem (by rw [HN.out]; exact hlt)⟩
      have hix := fun W => HIX.out i c hc W
      have HTK := Lib.hid (show encT (s.take (i + 1)) = encT (s.take i) ++ (if c = 0 then [0, 255] else [c]) by rw [List.take_add_one, hc]; unfold encT; simp)
      obtain ⟨cn, hcn⟩ : ∃ q, c.toNat = q := ⟨_, rfl⟩
      have HCN := Lib.hid hcn
      rw [hcn] at hix
      clear hc hcn
      have HA3 := Lib.hid (HOW.out.2.1.alloc (.cells #[.int .u8 (cn : Int)] 5))
      have HR3 := Lib.hid (Rd.of_blk (Blk.new wr 5 #[.int .u8 (cn : Int)]))
      have HB3 := Lib.hid (show base ≤ (wr.alloc (.cells #[.int .u8 (cn : Int)] 5)).heap.size by have := HOW.out.2.2; simp; omega)
      by_cases h0 : cn = 0
      · have hc0 : c = 0 := by rw [← UInt8.toNat_inj, HCN.out, h0]; rfl
        subst h0
        go_upto_region 6 with (at_builtin; refine wpList_append_rd _ rfl _ _ 76 rfl base 5 i0 _ 1 1 Tryz.underlying76 HI.out hz0 hz1 hz2 rfl (by decide) r m (byteV (l ++ 5 :: encT (s.take i))) rfl HA3.out (some ⟨wr.heap.size, 0, none⟩) 1 1 (fun h => by cases h) [.int .u8 ((0 : Nat) : Int)] rfl rfl HR3.out (byteV_one [0]) (by unfold maxLen; omega) (by omega) HB3.out ?_; intro row3 w3 hown3 hgr3 hob3)
        have H3P := Lib.hid (HOW.out.post (m := [0]) (M := 1) hown3 rfl hgr3 hob3)
        clear hown3 hgr3 hob3 HA3 HR3 HB3
        have HO3 := Lib.hid H3P.out.1
        have HA4 := Lib.hid (HO3.out.2.1.alloc (.cells #[.int .u8 255] 5))
        have HR4 := Lib.hid (Rd.of_blk (Blk.new w3 5 #[.int .u8 255]))
        have HB4 := Lib.hid (show base ≤ (w3.alloc (.cells #[.int .u8 255] 5)).heap.size by have := HO3.out.2.2; simp; omega)
        go_wp2_with (at_builtin; refine wpList_append_rd _ rfl _ _ 76 rfl base 5 i0 _ 1 1 Tryz.underlying76 HI.out hz0 hz1 hz2 rfl (by decide) row3 (m + 1) (byteV (l ++ 5 :: encT (s.take i) ++ [0])) rfl HA4.out (some ⟨w3.heap.size, 0, none⟩) 1 1 (fun h => by cases h) [.int .u8 255] rfl rfl HR4.out (byteV_one [255]) (by unfold maxLen; omega) (by omega) HB4.out ?_; intro row4 w4 hown4 hgr4 hob4)
        have H4P := Lib.hid (HO3.out.post (m := [255]) (M := 1) hown4 rfl hgr4 hob4)
        clear hown4 hgr4 hob4
        have HL := Lib.hid (show l ++ 5 :: encT (s.take i) ++ [0] ++ [255] = l ++ 5 :: encT (s.take (i + 1)) by rw [HTK.out, if_pos hc0]; simp)
        go_roundg (ns - (i + 1))
        case measure => rw [HG.out]; omega
        case rel => exact ⟨i + 1, m + 1 + 1, _, rfl, by omega, by omega, rfl, by go_num, Lib.hid (by rw [← HL.out]; exact H4P.out.1), Lib.hid ((HBW.out.trans H3P.out.2).trans H4P.out.2)⟩
      · have hc0 : ¬ c = 0 := fun e => h0 (by rw [← HCN.out, e]; rfl)
        have h0b : ((cn : Int) == 0) = false := by rw [beq_eq_false_iff_ne]; omega
        have hcc : byteV [c] = [.int .u8 (cn : Int)] := by show [Value.int .u8 ((c.toNat : Nat) : Int)] = _; rw [HCN.out]
        have HCC := Lib.hid hcc
        clear hcc
        go_upto_region 6 with (at_builtin; refine wpList_append_rd _ rfl _ _ 76 rfl base 5 i0 _ 1 1 Tryz.underlying76 HI.out hz0 hz1 hz2 rfl (by decide) r m (byteV (l ++ 5 :: encT (s.take i))) rfl HA3.out (some ⟨wr.heap.size, 0, none⟩) 1 1 (fun h => by cases h) [.int .u8 (cn : Int)] rfl rfl HR3.out (by rw [← HCC.out]; exact byteV_one [c]) (by unfold maxLen; omega) (by omega) HB3.out ?_; intro row3 w3 hown3 hgr3 hob3)
        have H3P := Lib.hid (HOW.out.post (m := [c]) (M := 1) (by rw [HCC.out]; exact hown3) rfl hgr3 hob3)
        clear hown3 hgr3 hob3 HA3 HR3 HB3
        have HL := Lib.hid (show l ++ 5 :: encT (s.take i) ++ [c] = l ++ 5 :: encT (s.take (i + 1)) by rw [HTK.out, if_neg hc0]; simp)
        go_wp2
        go_roundg (ns - (i + 1))
        case measure => rw [HG.out]; omega
        case rel => exact ⟨i + 1, m + 1, _, rfl, by omega, by omega, rfl, by go_num, Lib.hid (by rw [← HL.out]; exact H3P.out.1), Lib.hid (HBW.out.trans H3P.out.2)⟩
    · obtain rfl : i = ns := by omega
      have hl : l ++ 5 :: encT (s.take i) = l ++ 5 :: encT s := by rw [List.take_of_length_le (Nat.le_of_eq HN.out)]
      rw [hl] at HOW
      clear hl
      have HA5 := Lib.hid (HOW.out.2.1.alloc (.cells #[.int .u8 0, .int .u8 0] 5))
      have HR5 := Lib.hid (Rd.of_blk (Blk.new wr 5 #[.int .u8 0, .int .u8 0]))
      have HB5 := Lib.hid (show base ≤ (wr.alloc (.cells #[.int .u8 0, .int .u8 0] 5)).heap.size by have := HOW.out.2.2; simp; omega)
      go_wp2_with (at_builtin; refine wpList_append_rd _ rfl _ _ 76 rfl base 5 i0 _ 1 1 Tryz.underlying76 HI.out hz0 hz1 hz2 rfl (by decide) r m (byteV (l ++ 5 :: encT s)) rfl HA5.out (some ⟨wr.heap.size, 0, none⟩) 2 2 (fun h => by cases h) [.int .u8 0, .int .u8 0] rfl rfl HR5.out (byteV_one [0, 0]) (by unfold maxLen; omega) (by omega) HB5.out ?_; intro row3 w3 hown3 hgr3 hob3)
      have H3P := Lib.hid (HOW.out.post (m := [0, 0]) (M := 2) hown3 rfl hgr3 hob3)
      clear hown3 hgr3 hob3
      have HX := Lib.hid (HFIN.out _ _ _ (by have := H3P.out.1; simpa using this) (HBW.out.trans H3P.out.2))
      go_ret
      exact HX.out
end Go.Proofs.YtgolomgmnanbpaaGreatDoor
namespace Go.Proofs.YtgolomgmnanbpaaGreatDoor
set_option linter.unusedVariables false
set_option linter.unusedSimpArgs false
theorem xor63 {r : Nat} (h : r < 9223372036854775808) : r ^^^ 9223372036854775808 = 9223372036854775808 + r := by
  have e : (9223372036854775808 : Nat) = 2 ^ 63 := by decide
  rw [e] at h ⊢
  refine Nat.eq_of_testBit_eq fun i => ?_
  rw [Nat.testBit_xor, Nat.testBit_two_pow]
  rcases Nat.lt_trichotomy i 63 with hi | rfl | hi
  · rw [Nat.testBit_two_pow_add_gt hi, decide_eq_false (by omega), Bool.xor_false]
  · rw [Nat.testBit_two_pow_add_eq, decide_eq_true rfl, Bool.xor_true]
  · rw [decide_eq_false (by omega), Bool.xor_false]
    have h1 : r < 2 ^ i := Nat.lt_of_lt_of_le h (Nat.pow_le_pow_right (by decide) (by omega))
    have h2 : 2 ^ 63 + r < 2 ^ i := by
      have : 2 ^ 64 ≤ 2 ^ i := Nat.pow_le_pow_right (by decide) (by omega)
      have e2 : (2 : Nat) ^ 64 = 2 ^ 63 + 2 ^ 63 := by decide
      omega
    rw [Nat.testBit_lt_two_pow h1, Nat.testBit_lt_two_pow h2]
theorem xor63' {r : Nat} (h : r < 9223372036854775808) : (9223372036854775808 + r) ^^^ 9223372036854775808 = r := by
  rw [← xor63 h, Nat.xor_assoc, Nat.xor_self, Nat.xor_zero]
theorem u64_nat (a b : Nat) (ha : a < 18446744073709551616) (hb : b < 18446744073709551616) : bits .xor .u64 (a : Int) (b : Int) = ((a ^^^ b : Nat) : Int) := by
  have hx : a ^^^ b < 2 ^ 64 := Nat.xor_lt_two_pow (by omega) (by omega)
  show IntKind.u64.wrap ((BitVec.ofInt 64 (a : Int) ^^^ BitVec.ofInt 64 (b : Int)).toNat : Int) = _
  rw [BitVec.toNat_xor, BitVec.ofInt_natCast, BitVec.ofInt_natCast, BitVec.toNat_ofNat, BitVec.toNat_ofNat, Nat.mod_eq_of_lt (by omega), Nat.mod_eq_of_lt (by omega), IntKind.wrap_u64]
  omega
theorem xor_num {v : Int} (hv : iw v) : bits .xor .u64 (IntKind.u64.wrap v) 9223372036854775808 = ((v + 9223372036854775808).toNat : Int) := by
  unfold iw at hv
  rw [IntKind.wrap_u64]
  by_cases h : 0 ≤ v
  · obtain ⟨a, rfl⟩ : ∃ a : Nat, (a : Int) = v := ⟨v.toNat, by omega⟩
    have e1 : (a : Int) % 18446744073709551616 = (a : Int) := by omega
    rw [e1, show (9223372036854775808 : Int) = ((9223372036854775808 : Nat) : Int) from rfl, u64_nat _ _ (by omega) (by decide), xor63 (by omega)]
    congr 1; omega
  · obtain ⟨a, ha⟩ : ∃ a : Nat, (a : Int) = v + 9223372036854775808 := ⟨(v + 9223372036854775808).toNat, by omega⟩
    have e1 : v % 18446744073709551616 = ((9223372036854775808 + a : Nat) : Int) := by omega
    rw [e1, show (9223372036854775808 : Int) = ((9223372036854775808 : Nat) : Int) from rfl, u64_nat _ _ (by omega) (by decide), xor63' (by omega)]
    congr 1; omega
def numB8 (m j : Nat) : List UInt8 := (([56, 48, 40, 32, 24, 16, 8, 0] : List Nat).take j).map fun by_ => UInt8.ofNat (m / 2 ^ by_)
theorem codeN_8 (n : Int) : codeN n = 4 :: numB8 (n + 9223372036854775808).toNat 8 := rfl
end Go.Proofs.YtgolomgmnanbpaaGreatDoor
namespace Go.Proofs.YtgolomgmnanbpaaGreatDoor
set_option linter.unusedVariables false
set_option linter.unusedSimpArgs false
open Go.RowKit
attribute [local go_sem] run_index_arr run_part_agg run_part_one run_field_agg
theorem byte_is {m d : Nat} {E : Int} (h : E = ((m / d % 256 : Nat) : Int)) : [Value.int .u8 E] = byteV [UInt8.ofNat (m / d)] := by
  subst h
  show [Value.int .u8 ((m / d % 256 : Nat) : Int)] = [Value.int .u8 (((UInt8.ofNat (m / d)).toNat : Nat) : Int)]
  rw [UInt8.toNat_ofNat']
theorem numB8_step {m j by_ : Nat} (h : ([56, 48, 40, 32, 24, 16, 8, 0] : List Nat)[j]? = some by_) : numB8 m (j + 1) = numB8 m j ++ [UInt8.ofNat (m / 2 ^ by_)] := by
  unfold numB8
  rw [List.take_add_one, h, List.map_append]; rfl
set_option maxRecDepth 100000 in
set_option maxHeartbeats 4000000 in
theorem kLay3 (row : Value) (base n : Nat) (l : List UInt8) (w : World) (v : Int) (t : List UInt8) (A B : Option Addr) (nk ca ny cb : Nat) (h : OwnB base row n l w) (hn : n ≤ 100000000000) (hv : iw v) :
    Calls Tryz.prog 65 #[row, .agg #[.int .i64 3, .int .i64 v, .string ⟨t.toArray⟩, .slice A nk ca, .slice B ny cb]] w (LayP base (l ++ codeN v) row w) := by
  obtain ⟨i0, hi, hz0, hz1, hz2⟩ := info_parts infoByteK
  have HI := Lib.hid hi
  have HH0 := Lib.hid ((Held.nil w).push 25 #[.int .i64 3, .int .i64 v, .string ⟨t.toArray⟩, .slice A nk ca, .slice B ny cb] (g := w.heap.size) rfl)
  have HO := Lib.hid (h.bel HH0.out.1)
  obtain ⟨W0, hW0⟩ : ∃ W0, w.alloc (.cells #[.int .i64 3, .int .i64 v, .string ⟨t.toArray⟩, .slice A nk ca, .slice B ny cb] 25) = W0 := ⟨_, rfl⟩
  rw [hW0] at HH0 HO
  have HW0 := Lib.hid hW0
  clear hi h hW0
  have HA2 := Lib.hid (HO.out.2.1.alloc (.cells #[.int .u8 4] 5))
  have HR2 := Lib.hid (Rd.of_blk (Blk.new W0 5 #[.int .u8 4]))
  have HB2 := Lib.hid (show base ≤ (W0.alloc (.cells #[.int .u8 4] 5)).heap.size by have := HO.out.2.2; simp; omega)
  go_enter Tryz.func65, Tryz.ntmps65
  go_upto_region 10 with fail
  rw [HW0.out]
  go_upto_region 11 with (at_builtin; refine wpList_append_rd _ rfl _ _ 76 rfl base 5 i0 _ 1 1 Tryz.underlying76 HI.out hz0 hz1 hz2 rfl (by decide) row n (byteV l) rfl HA2.out (some ⟨W0.heap.size, 0, none⟩) 1 1 (fun h => by cases h) [.int .u8 4] rfl rfl HR2.out (byteV_one [4]) (by unfold maxLen; omega) (by omega) HB2.out ?_; intro row2 w2 hown2 hgr2 hob2)
  rw [xor_num hv]
  obtain ⟨m, hm⟩ : ∃ m, (v + 9223372036854775808).toNat = m := ⟨_, rfl⟩
  have hm64 : m < 18446744073709551616 := by unfold iw at hv; omega
  rw [hm]
  have H2P := Lib.hid (HO.out.post (m := [4]) (M := 1) hown2 rfl hgr2 hob2)
  have HFIN := Lib.hid (fun (r : Value) (k : Nat) (w' : World) (ho : OwnB base r k (l ++ 4 :: numB8 m 8) w') (hb : Gr row W0 r w') => show LayP base (l ++ codeN v) row w (.returned r) w' from ⟨r, k, rfl, by rw [codeN_8, hm]; exact ho, (Gr.bel HH0.out.1).trans hb⟩)
  clear hown2 hgr2 hob2 hm HA2 HR2 HB2 hv
  go_wp2
  go_loopg [0, 6] 8 (fun gk s0 s6 wr => ∃ (j : Nat) (b : Int) (r : Value), r = s0 ∧ j ≤ 8 ∧ gk = 8 - j ∧ s6 = .int .i64 b ∧ b = 56 - 8 * j ∧ Hid (OwnB base r (n + 1 + j) (l ++ 4 :: numB8 m j) wr) ∧ Hid (Gr row W0 r wr))
  case atStart => exact ⟨0, 56, _, rfl, by omega, by go_num, rfl, by omega, Lib.hid (by simpa [numB8] using H2P.out.1), Lib.hid H2P.out.2⟩
  case round =>
    obtain ⟨j, b, r, rfl, hj, hgk, rfl, hb, HOW, HBW⟩ := hrel
    have HG := Lib.hid hgk
    clear hgk H2P
    have HA := Lib.hid (fun (x : Int) => HOW.out.2.1.alloc (.cells #[.int .u8 x] 5))
    have HR := Lib.hid (fun (x : Int) => Rd.of_blk (Blk.new wr 5 #[.int .u8 x]))
    have HB := Lib.hid (fun (x : Int) => show base ≤ (wr.alloc (.cells #[.int .u8 x] 5)).heap.size by have := HOW.out.2.2; simp; omega)
    rcases (by omega : j = 0 ∨ j = 1 ∨ j = 2 ∨ j = 3 ∨ j = 4 ∨ j = 5 ∨ j = 6 ∨ j = 7 ∨ j = 8) with rfl | rfl | rfl | rfl | rfl | rfl | rfl | rfl | rfl
    · obtain rfl : b = 56 := by omega
      have HST := Lib.hid (numB8_step (m := m) (j := 0) (by_ := 56) rfl)
      clear hb hj
      go_upto_region 13 with (at_builtin; refine wpList_append_rd _ rfl _ _ 76 rfl base 5 i0 _ 1 1 Tryz.underlying76 HI.out hz0 hz1 hz2 rfl (by decide) r (n + 1 + 0) (byteV (l ++ 4 :: numB8 m 0)) rfl (HA.out _) (some ⟨wr.heap.size, 0, none⟩) 1 1 (fun h => by cases h) [.int .u8 _] rfl rfl (HR.out _) (by intro u hu; obtain rfl := List.mem_singleton.1 hu; rfl) (by unfold maxLen; omega) (by omega) (HB.out _) ?_; intro row3 w3 hown3 hgr3 hob3)
      rw [byte_is (m := m) (d := 72057594037927936) ?_] at hown3
      rotate_left
      · omega
      have H3P := Lib.hid (HOW.out.post (m := [UInt8.ofNat (m / 72057594037927936)]) (M := 1) hown3 rfl hgr3 hob3)
      clear hown3 hgr3 hob3
      go_wp2
      go_roundg (8 - (0 + 1))
      case measure => rw [HG.out]; omega
      case rel => exact ⟨1, 48, _, rfl, by omega, by first | rfl | omega, by go_num, by omega, Lib.hid (by rw [HST.out, ← List.cons_append, ← List.append_assoc]; exact H3P.out.1), Lib.hid (HBW.out.trans H3P.out.2)⟩
    · obtain rfl : b = 48 := by omega
      have HST := Lib.hid (numB8_step (m := m) (j := 1) (by_ := 48) rfl)
      clear hb hj
      go_upto_region 13 with (at_builtin; refine wpList_append_rd _ rfl _ _ 76 rfl base 5 i0 _ 1 1 Tryz.underlying76 HI.out hz0 hz1 hz2 rfl (by decide) r (n + 1 + 1) (byteV (l ++ 4 :: numB8 m 1)) rfl (HA.out _) (some ⟨wr.heap.size, 0, none⟩) 1 1 (fun h => by cases h) [.int .u8 _] rfl rfl (HR.out _) (by intro u hu; obtain rfl := List.mem_singleton.1 hu; rfl) (by unfold maxLen; omega) (by omega) (HB.out _) ?_; intro row3 w3 hown3 hgr3 hob3)
      rw [byte_is (m := m) (d := 281474976710656) ?_] at hown3
      rotate_left
      · omega
      have H3P := Lib.hid (HOW.out.post (m := [UInt8.ofNat (m / 281474976710656)]) (M := 1) hown3 rfl hgr3 hob3)
      clear hown3 hgr3 hob3
      go_wp2
      go_roundg (8 - (1 + 1))
      case measure => rw [HG.out]; omega
      case rel => exact ⟨2, 40, _, rfl, by omega, by first | rfl | omega, by go_num, by omega, Lib.hid (by rw [HST.out, ← List.cons_append, ← List.append_assoc]; exact H3P.out.1), Lib.hid (HBW.out.trans H3P.out.2)⟩
    · obtain rfl : b = 40 := by omega
      have HST := Lib.hid (numB8_step (m := m) (j := 2) (by_ := 40) rfl)
      clear hb hj
      go_upto_region 13 with (at_builtin; refine wpList_append_rd _ rfl _ _ 76 rfl base 5 i0 _ 1 1 Tryz.underlying76 HI.out hz0 hz1 hz2 rfl (by decide) r (n + 1 + 2) (byteV (l ++ 4 :: numB8 m 2)) rfl (HA.out _) (some ⟨wr.heap.size, 0, none⟩) 1 1 (fun h => by cases h) [.int .u8 _] rfl rfl (HR.out _) (by intro u hu; obtain rfl := List.mem_singleton.1 hu; rfl) (by unfold maxLen; omega) (by omega) (HB.out _) ?_; intro row3 w3 hown3 hgr3 hob3)
      rw [byte_is (m := m) (d := 1099511627776) ?_] at hown3
      rotate_left
      · omega
      have H3P := Lib.hid (HOW.out.post (m := [UInt8.ofNat (m / 1099511627776)]) (M := 1) hown3 rfl hgr3 hob3)
      clear hown3 hgr3 hob3
      go_wp2
      go_roundg (8 - (2 + 1))
      case measure => rw [HG.out]; omega
      case rel => exact ⟨3, 32, _, rfl, by omega, by first | rfl | omega, by go_num, by omega, Lib.hid (by rw [HST.out, ← List.cons_append, ← List.append_assoc]; exact H3P.out.1), Lib.hid (HBW.out.trans H3P.out.2)⟩
    · obtain rfl : b = 32 := by omega
      have HST := Lib.hid (numB8_step (m := m) (j := 3) (by_ := 32) rfl)
      clear hb hj
      go_upto_region 13 with (at_builtin; refine wpList_append_rd _ rfl _ _ 76 rfl base 5 i0 _ 1 1 Tryz.underlying76 HI.out hz0 hz1 hz2 rfl (by decide) r (n + 1 + 3) (byteV (l ++ 4 :: numB8 m 3)) rfl (HA.out _) (some ⟨wr.heap.size, 0, none⟩) 1 1 (fun h => by cases h) [.int .u8 _] rfl rfl (HR.out _) (by intro u hu; obtain rfl := List.mem_singleton.1 hu; rfl) (by unfold maxLen; omega) (by omega) (HB.out _) ?_; intro row3 w3 hown3 hgr3 hob3)
      rw [byte_is (m := m) (d := 4294967296) ?_] at hown3
      rotate_left
      · omega
      have H3P := Lib.hid (HOW.out.post (m := [UInt8.ofNat (m / 4294967296)]) (M := 1) hown3 rfl hgr3 hob3)
      clear hown3 hgr3 hob3
      go_wp2
      go_roundg (8 - (3 + 1))
      case measure => rw [HG.out]; omega
      case rel => exact ⟨4, 24, _, rfl, by omega, by first | rfl | omega, by go_num, by omega, Lib.hid (by rw [HST.out, ← List.cons_append, ← List.append_assoc]; exact H3P.out.1), Lib.hid (HBW.out.trans H3P.out.2)⟩
    · obtain rfl : b = 24 := by omega
      have HST := Lib.hid (numB8_step (m := m) (j := 4) (by_ := 24) rfl)
      clear hb hj
      go_upto_region 13 with (at_builtin; refine wpList_append_rd _ rfl _ _ 76 rfl base 5 i0 _ 1 1 Tryz.underlying76 HI.out hz0 hz1 hz2 rfl (by decide) r (n + 1 + 4) (byteV (l ++ 4 :: numB8 m 4)) rfl (HA.out _) (some ⟨wr.heap.size, 0, none⟩) 1 1 (fun h => by cases h) [.int .u8 _] rfl rfl (HR.out _) (by intro u hu; obtain rfl := List.mem_singleton.1 hu; rfl) (by unfold maxLen; omega) (by omega) (HB.out _) ?_; intro row3 w3 hown3 hgr3 hob3)
      rw [byte_is (m := m) (d := 16777216) ?_] at hown3
      rotate_left
      · omega
      have H3P := Lib.hid (HOW.out.post (m := [UInt8.ofNat (m / 16777216)]) (M := 1) hown3 rfl hgr3 hob3)
      clear hown3 hgr3 hob3
      go_wp2
      go_roundg (8 - (4 + 1))
      case measure => rw [HG.out]; omega
      case rel => exact ⟨5, 16, _, rfl, by omega, by first | rfl | omega, by go_num, by omega, Lib.hid (by rw [HST.out, ← List.cons_append, ← List.append_assoc]; exact H3P.out.1), Lib.hid (HBW.out.trans H3P.out.2)⟩
    · obtain rfl : b = 16 := by omega
      have HST := Lib.hid (numB8_step (m := m) (j := 5) (by_ := 16) rfl)
      clear hb hj
      go_upto_region 13 with (at_builtin; refine wpList_append_rd _ rfl _ _ 76 rfl base 5 i0 _ 1 1 Tryz.underlying76 HI.out hz0 hz1 hz2 rfl (by decide) r (n + 1 + 5) (byteV (l ++ 4 :: numB8 m 5)) rfl (HA.out _) (some ⟨wr.heap.size, 0, none⟩) 1 1 (fun h => by cases h) [.int .u8 _] rfl rfl (HR.out _) (by intro u hu; obtain rfl := List.mem_singleton.1 hu; rfl) (by unfold maxLen; omega) (by omega) (HB.out _) ?_; intro row3 w3 hown3 hgr3 hob3)
      rw [byte_is (m := m) (d := 65536) ?_] at hown3
      rotate_left
      · omega
      have H3P := Lib.hid (HOW.out.post (m := [UInt8.ofNat (m / 65536)]) (M := 1) hown3 rfl hgr3 hob3)
      clear hown3 hgr3 hob3
      go_wp2
      go_roundg (8 - (5 + 1))
      case measure => rw [HG.out]; omega
      case rel => exact ⟨6, 8, _, rfl, by omega, by first | rfl | omega, by go_num, by omega, Lib.hid (by rw [HST.out, ← List.cons_append, ← List.append_assoc]; exact H3P.out.1), Lib.hid (HBW.out.trans H3P.out.2)⟩
    · obtain rfl : b = 8 := by omega
      have HST := Lib.hid (numB8_step (m := m) (j := 6) (by_ := 8) rfl)
      clear hb hj
      go_upto_region 13 with (at_builtin; refine wpList_append_rd _ rfl _ _ 76 rfl base 5 i0 _ 1 1 Tryz.underlying76 HI.out hz0 hz1 hz2 rfl (by decide) r (n + 1 + 6) (byteV (l ++ 4 :: numB8 m 6)) rfl (HA.out _) (some ⟨wr.heap.size, 0, none⟩) 1 1 (fun h => by cases h) [.int .u8 _] rfl rfl (HR.out _) (by intro u hu; obtain rfl := List.mem_singleton.1 hu; rfl) (by unfold maxLen; omega) (by omega) (HB.out _) ?_; intro row3 w3 hown3 hgr3 hob3)
      rw [byte_is (m := m) (d := 256) ?_] at hown3
      rotate_left
      · omega
      have H3P := Lib.hid (HOW.out.post (m := [UInt8.ofNat (m / 256)]) (M := 1) hown3 rfl hgr3 hob3)
      clear hown3 hgr3 hob3
      go_wp2
      go_roundg (8 - (6 + 1))
      case measure => rw [HG.out]; omega
      case rel => exact ⟨7, 0, _, rfl, by omega, by first | rfl | omega, by go_num, by omega, Lib.hid (by rw [HST.out, ← List.cons_append, ← List.append_assoc]; exact H3P.out.1), Lib.hid (HBW.out.trans H3P.out.2)⟩
    · obtain rfl : b = 0 := by omega
      have HST := Lib.hid (numB8_step (m := m) (j := 7) (by_ := 0) rfl)
      clear hb hj
      go_upto_region 13 with (at_builtin; refine wpList_append_rd _ rfl _ _ 76 rfl base 5 i0 _ 1 1 Tryz.underlying76 HI.out hz0 hz1 hz2 rfl (by decide) r (n + 1 + 7) (byteV (l ++ 4 :: numB8 m 7)) rfl (HA.out _) (some ⟨wr.heap.size, 0, none⟩) 1 1 (fun h => by cases h) [.int .u8 _] rfl rfl (HR.out _) (by intro u hu; obtain rfl := List.mem_singleton.1 hu; rfl) (by unfold maxLen; omega) (by omega) (HB.out _) ?_; intro row3 w3 hown3 hgr3 hob3)
      rw [byte_is (m := m) (d := 1) ?_] at hown3
      rotate_left
      · omega
      have H3P := Lib.hid (HOW.out.post (m := [UInt8.ofNat (m / 1)]) (M := 1) hown3 rfl hgr3 hob3)
      clear hown3 hgr3 hob3
      go_wp2
      go_roundg (8 - (7 + 1))
      case measure => rw [HG.out]; omega
      case rel => exact ⟨8, -8, _, rfl, by omega, by first | rfl | omega, by go_num, by omega, Lib.hid (by rw [HST.out, ← List.cons_append, ← List.append_assoc]; exact H3P.out.1), Lib.hid (HBW.out.trans H3P.out.2)⟩
    · obtain rfl : b = -8 := by omega
      go_wp2
      go_ret
      exact HFIN.out _ _ _ HOW.out HBW.out
end Go.Proofs.YtgolomgmnanbpaaGreatDoor
