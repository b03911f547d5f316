/- The walk of VlexJoins. -/
import Derived.Test.YteeldajkfplomaaDoorJoinS
import Derived.Test.YteeldajkfplomaaDoorWakes
import Derived.Deep.RegionLawGrows
import Derived.Deep.DeepCutAuto
import Derived.Deep.CutBlock
namespace Go.Proofs.YteeldajkfplomaaDoor
set_option linter.unusedVariables false
set_option linter.unusedSimpArgs false
open Go.RowKit
attribute [local go_sem] run_index_arr run_part_agg run_part_one run_field_agg

def TrueJ (w : World) (e : Ending) (w' : World) : Prop := e = .returned (.bool true) ∧ Below w.heap.size w w'
theorem cut250 (s : ByteArray) : ∃ x : ByteArray, x.size ≤ 250 ∧ (250 < s.size → s.extract 0 250 = x) ∧ (¬ 250 < s.size → s = x) :=
  ⟨if 250 < s.size then s.extract 0 250 else s, (by split; (simp; omega); omega), fun h => by rw [if_pos h], fun h => by rw [if_neg h]⟩
theorem join_lex (x y : ByteArray) (b : UInt8) (hx : x.size ≤ 250) (hy : y.size ≤ 250) {r : List VTok × Int × Int} (h : vLex (sl x ++ b :: sl y) = r) (w : World) (hG : GOK w) (z : ByteArray) (hz : z = x ++ ⟨#[b]⟩ ++ y) :
    Calls Tryd.prog 10 #[.string z] w (LexPost r w) := by
  have h1 := lex_any z w hG (by rw [hz, ByteArray.size_append, ByteArray.size_append]; show x.size + 1 + y.size ≤ _; omega)
  have e : sl z = sl x ++ b :: sl y := by rw [hz]; simp [sl]
  rw [e, h] at h1
  exact h1
theorem step_grows_w {P : Program} {ops : Array Oper} {o : Oper} {a : Act} {w : World} {K : Act → World → Prop} {Q : Exit → Act → World → Prop} {E : Prop}
    (hw : Region.wanted o (yielded ops a.tmps) = true) (s x : Operand) (t : TypeId) (hop : o.op = Op.call { callee := Callee.builtin Builtin.append, args := #[s, x], argTypes := #[t, t] })
    (e : TypeId) (i : TypeInfo) (z : Value) (size bytes : Nat) (h1 : P.underlying t = some (.slice e)) (h2 : P.info? e = some i) (h3 : i.zero = some z) (h4 : i.size = size) (h5 : i.bytes = bytes) (h6 : z.cells.size = size) (h7 : 0 < size)
    (b : Addr) (n cap : Nat) (olds : List Value) (hs : a.eval s = .slice (some b) n cap) (hlo : olds.length = n * size) (holds : ∀ j u, olds[j]? = some u → w.cell? (b.add j) = some u)
    (ad : Addr) (m c : Nat) (news : List Value) (hx : a.eval x = .slice (some ad) m c) (hn : news.length = m * size) (hc : ∀ j u, news[j]? = some u → w.cell? (ad.add j) = some u)
    (hfull : cap < n + m) (b1 : n + m ≤ maxLen) (b2 : (n + m) * bytes ≤ 140737488355328)
    (hK : ∀ v' w', w'.ownsRow w.heap.size e size v' (n + m) (olds ++ news) → w.grownBy w' none → K (a.put o.dst v') w') :
    if Region.wanted o (yielded ops a.tmps) = true then Oper.wp P o a w K Q else E := by
  rw [if_pos hw]
  obtain ⟨v', w', hrun, r1, r2⟩ := run_append_arg_grows (P := P) w t o.type e i z size bytes h1 h2 h3 h4 h5 h6 h7 b n cap olds hlo holds ad m c news hn hc hfull b1 b2
  unfold Oper.wp
  simp [execOp, hop, resolve, invoke, builtin, hs, hx, hrun, Result.andThen]
  exact hK v' w' r1 r2
theorem joins4 {w w1 w2 w3 w4 : World} (h1 : Below w.heap.size w w1) (k : Nat) (h2 : Below (w1.drewN k).heap.size (w1.drewN k) w2) (h3 : Below w2.heap.size w2 w3) (h4 : Below w3.heap.size w3 w4) : Below w.heap.size w w4 := by
  have s1 := h1.size
  have s2 : w1.heap.size ≤ w2.heap.size := h2.size
  have s3 := h3.size
  exact (((bel_drewN h1 k).trans (h2.mono s1)).trans (h3.mono (by omega))).trans (h4.mono (by omega))
theorem joinsFin {w w4 w5 w6 : World} (h : Below w.heap.size w w4) (h5 : Below w4.drew.heap.size w4.drew w5) (h6 : Below w5.heap.size w5 w6) (n : Nat) : Below w.heap.size w (w6.drewN n) := by
  have s1 := h.size
  have s2 : w4.heap.size ≤ w5.heap.size := h5.size
  have h0 : Below w.heap.size w w4.drew := bel_drewN h 1
  exact bel_drewN ((h0.trans (h5.mono s1)).trans (h6.mono (by omega))) n
theorem TS.outN {w : World} {v : Value} {ts : List VTok} {n : Nat} (h : TS w v ts) (hn : ts.length = n) : ∃ A cap, v = .slice A n cap ∧ n ≤ cap ∧ Rd w A (tokCells ts) := by
  subst hn; exact h
set_option maxRecDepth 100000 in
set_option maxHeartbeats 4000000 in
theorem vlexJoins_any (s t : ByteArray) (q : Int) (w : World) (hG : GOK w) (hs : s.size ≤ maxLen) (ht : t.size ≤ maxLen) (hq : 0 ≤ q ∧ q < 256) : Calls Tryd.prog 6 #[.string s, .string t, .int .u8 q] w (TrueJ w) := by
  unfold maxLen at hs ht
  obtain ⟨i0, hi, hz0, hz1, hz2⟩ := info_parts infoTok
  have HW := Lib.hid (wakes_any w hG)
  have HG := Lib.hid hG
  clear hG
  obtain ⟨x, hx, hx1, hx2⟩ := cut250 s
  obtain ⟨y, hy, hy1, hy2⟩ := cut250 t
  have hlx : (sl x).length = x.size := sl_len x
  have hly : (sl y).length = y.size := sl_len y
  have h1 := fun w hG => lex_any x w hG (by omega)
  have h2 := fun w hG => lex_any y w hG (by omega)
  obtain ⟨b, hbl, hcase⟩ : ∃ b : UInt8, isBlankB b = true ∧ ((q.tmod 4 = 0 ∧ b = 32) ∨ (q.tmod 4 = 1 ∧ b = 9) ∨ (q.tmod 4 = 2 ∧ b = 10) ∨ (q.tmod 4 = 3 ∧ b = 13)) := by
    have : q.tmod 4 = 0 ∨ q.tmod 4 = 1 ∨ q.tmod 4 = 2 ∨ q.tmod 4 = 3 := by rw [Int.tmod_eq_emod_of_nonneg hq.1]; omega
    rcases this with h | h | h | h
    · exact ⟨32, by decide, .inl ⟨h, rfl⟩⟩
    · exact ⟨9, by decide, .inr (.inl ⟨h, rfl⟩)⟩
    · exact ⟨10, by decide, .inr (.inr (.inl ⟨h, rfl⟩))⟩
    · exact ⟨13, by decide, .inr (.inr (.inr ⟨h, rfl⟩))⟩
  obtain ⟨j1, j2, j3⟩ := vLex_join (s := sl x) (t := sl y) hbl (by omega) (by omega)
  have g1 := vLex_place (sl x)
  have g2 := vLex_place (sl y)
  have g3 := vLex_end (l := sl y) (by omega)
  have l1 := vLex_lenS (sl x)
  have l2 := vLex_lenS (sl y)
  have l3 := vLex_lenS (sl x ++ b :: sl y)
  have p2 := vLex_places (sl y)
  have h3 := fun r (h : vLex (sl x ++ b :: sl y) = r) => join_lex x y b hx hy h
  obtain ⟨⟨ts3, q3, e3⟩, hr3⟩ : ∃ r, vLex (sl x ++ b :: sl y) = r := ⟨_, rfl⟩
  have h3 := h3 _ hr3
  rw [hr3] at j1 j2 j3 l3
  obtain ⟨⟨ts1, q1, e1⟩, hr1⟩ : ∃ r, vLex (sl x) = r := ⟨_, rfl⟩
  rw [hr1] at h1 j2 j3 g1 l1
  obtain ⟨⟨ts2, q2, e2⟩, hr2⟩ : ∃ r, vLex (sl y) = r := ⟨_, rfl⟩
  rw [hr2] at h2 j3 g2 g3 l2 p2
  simp only [hlx, hly, Prod.mk.injEq] at j1 j2 j3 g1 g2 g3 l1 l2 l3 p2
  clear hr1 hr2 hr3 hlx hly hbl
  have H1 := Lib.hid h1
  have H2 := Lib.hid h2
  have H3 := Lib.hid h3
  have J1 := Lib.hid j1
  have J2 := Lib.hid j2
  have J3 := Lib.hid j3
  have G1 := Lib.hid g1
  have G2 := Lib.hid g2
  have G3 := Lib.hid g3
  have L1 := Lib.hid l1
  have L2 := Lib.hid l2
  have L3 := Lib.hid l3
  have P2 := Lib.hid p2
  have HC := Lib.hid hcase
  clear h1 h2 h3 j1 j2 j3 g1 g2 g3 l1 l2 l3 p2 hcase
  go_enter Tryd.func6, Tryd.ntmps6
  go_wp2_with fail
  refine HW.out.mono ?_
  rintro e w1 ⟨rfl, hb1⟩
  go_wp2_with fail
  go_upto_region 3 with fail
  go_cut [0, 1] (fun s0 s1 wx => s0 = .string x ∧ s1 = .string y ∧ ∃ k, wx = w1.drewN k)
  case first =>
    by_cases h1 : 250 < s.size <;> by_cases h2 : 250 < t.size
    all_goals
      go_quiet (fail)
      go_wp2
      go_meet
      case rel => exact ⟨rfl, rfl, nq, rfl⟩
  case rest =>
    obtain ⟨rfl, rfl, k, rfl⟩ := hcut
    clear hx1 hx2 hy1 hy2 hs ht
    go_wp2_with fail
    refine (H1.out _ ((HG.out.keep hb1).drewN k)).mono ?_
    rintro e w2 ⟨v1, rfl, hv1, hb2⟩
    go_wp2_with fail
    refine (H2.out _ (((HG.out.keep hb1).drewN k).keep hb2)).mono ?_
    rintro e w3 ⟨v2, rfl, hv2, hb3⟩
    have G4 := Lib.hid ((((HG.out.keep hb1).drewN k).keep hb2).keep hb3)
    clear hq
    obtain ⟨n3, hn3⟩ : ∃ n, ts3.length = n := ⟨_, rfl⟩
    go_upto_region 6 with fail
    go_cut [13, 14, 15] (fun s13 s14 s15 wx => ∃ A c, s13 = .slice A n3 c ∧ n3 ≤ c ∧ Rd wx A (tokCells ts3) ∧ s14 = .int .i64 q3 ∧ s15 = .int .i64 e3 ∧ Below w3.heap.size w3 wx)
    case first =>
      have hu0 : Utf8.encode (((⟨#[32, 9, 10, 13]⟩ : ByteArray)[0]'(by decide)).toNat) = ⟨#[32]⟩ := by decide +kernel
      have hu1 : Utf8.encode (((⟨#[32, 9, 10, 13]⟩ : ByteArray)[1]'(by decide)).toNat) = ⟨#[9]⟩ := by decide +kernel
      have hu2 : Utf8.encode (((⟨#[32, 9, 10, 13]⟩ : ByteArray)[2]'(by decide)).toNat) = ⟨#[10]⟩ := by decide +kernel
      have hu3 : Utf8.encode (((⟨#[32, 9, 10, 13]⟩ : ByteArray)[3]'(by decide)).toNat) = ⟨#[13]⟩ := by decide +kernel
      rcases HC.out with ⟨hq4, rfl⟩ | ⟨hq4, rfl⟩ | ⟨hq4, rfl⟩ | ⟨hq4, rfl⟩
      all_goals
        go_wp2_with fail
        refine (H3.out _ G4.out _ rfl).mono ?_
        rintro e w4 ⟨v3, rfl, hv3, hb4⟩
        obtain ⟨A3, c3, rfl, hc3, hr3⟩ := hv3.outN hn3
        go_wp2
        go_meet
        case rel => exact ⟨A3, c3, rfl, hc3, hr3, rfl, rfl, hb4⟩
    case rest =>
      obtain ⟨A3, c3, rfl, hc3, hr3, rfl, rfl, hb4⟩ := hcut
      obtain ⟨w4, hw4⟩ : ∃ W, wc = W := ⟨_, rfl⟩
      rw [hw4] at hr3 hb4
      rw [hw4]
      clear hw4 H3 HC
      have HB := Lib.hid (joins4 hb1 k hb2 hb3 hb4)
      obtain ⟨n1, hn1⟩ : ∃ n, ts1.length = n := ⟨_, rfl⟩
      obtain ⟨n2, hn2⟩ : ∃ n, ts2.length = n := ⟨_, rfl⟩
      obtain ⟨A1, c1, rfl, hc1, hr1⟩ := ((hv1.below hb3).below hb4).outN hn1
      obtain ⟨A2, c2, rfl, hc2, hr2⟩ := (hv2.below hb4).outN hn2
      have HR1 := Lib.hid hr1
      have HR2 := Lib.hid hr2
      have HR3 := Lib.hid hr3
      have HN1 := Lib.hid hn1
      have HN2 := Lib.hid hn2
      have HN3 := Lib.hid hn3
      clear hr1 hr2 hr3 hn1 hn2 hn3 hv1 hv2
      go_upto_block 0 with fail
      go_cut [] (fun wx => wx = w4 ∧ Hid (e1 = 0 ∧ e2 = 0))
      case first =>
        by_cases h6 : e1 = 6
        · subst h6
          by_cases h30 : e3 = 0
          · subst h30
            have hp : 0 < n3 := by
              rw [← HN3.out]
              exact List.length_pos_iff.2 (J1.out.resolve_left (by simp))
            have hp' : (0 : Int) < n3 := by omega
            go_wp2
            go_ret
            exact ⟨rfl, HB.out⟩
          · have he : (e3 != 0) = true := by simpa using h30
            go_wp2
            go_ret
            exact ⟨rfl, HB.out⟩
        · by_cases h0 : e1 = 0
          · subst h0
            obtain ⟨pre, k1, k2, k3⟩ := J3.out rfl
            have hm1 : n1 = pre.length + 1 := by rw [← HN1.out, k1]; simp
            have hne1 : ((n1 : Int) == 0) = false := by simp; omega
            by_cases h20 : e2 = 0
            · subst h20
              clear k1 k2 k3 hm1
              go_wp2
              go_meet
              case rel => exact ⟨rfl, Lib.hid (by simp)⟩
            · obtain ⟨r1, r2, r3⟩ := k2 h20
              have he : (e2 != 0) = true := by simpa using h20
              obtain ⟨u1, u2⟩ := G2.out
              have hq3 : q3 = (x.size : Int) + 1 + q2 := by rw [r2]; simp
              have hn0 : n3 = 0 := by rw [← HN3.out, r1]; rfl
              have r3' := r3.symm
              subst hn0 hq3 r3'
              clear k1 k2 k3 r1 r2 h20
              go_wp2
              go_ret
              exact ⟨rfl, HB.out⟩
          · obtain ⟨r1, r2, r3⟩ := J2.out h0 h6
            have hn0 : n3 = 0 := by rw [← HN3.out, r1]; rfl
            have r2' := r2.symm
            have r3' := r3.symm
            subst hn0 r2' r3'
            have he6 : (e1 == 6) = false := by simpa using h6
            have he0 : (e1 != 0) = true := by simpa using h0
            clear r1 h0 h6
            by_cases h7 : e1 = 7
            · subst h7
              by_cases hqx : q1 = x.size
              · subst hqx
                go_wp2
                go_ret
                exact ⟨rfl, HB.out⟩
              · have hqb : (q1 == (x.size : Int)) = false := by simpa using hqx
                go_wp2
                go_ret
                exact ⟨rfl, HB.out⟩
            · have he7 : (e1 == 7) = false := by simpa using h7
              go_wp2
              go_ret
              exact ⟨rfl, HB.out⟩

      case rest =>
        obtain ⟨rfl, he⟩ := hcut
        obtain ⟨rfl, rfl⟩ := he.out
        obtain ⟨pre, k1, k2, k3⟩ := J3.out rfl
        have hm1 : n1 = pre.length + 1 := by rw [← HN1.out, k1]; simp
        obtain ⟨r1, r2, r3⟩ := k3 rfl
        have hn2p : 0 < n2 := by rw [← HN2.out]; exact List.length_pos_iff.2 (G3.out rfl)
        obtain ⟨b1, o1, rfl, hlt1, hx1⟩ := HR1.out (by rw [k1, tokCells_app]; simp [tokCells, tokL])
        have hpre : ∀ j u, (tokCells pre)[j]? = some u → wc.cell? ⟨b1, o1 + j, none⟩ = some u := fun j u hu => by
          obtain ⟨hj, e⟩ := List.getElem?_eq_some_iff.1 hu
          have hj2 : j < (tokCells ts1).length := by rw [k1, tokCells_app, List.length_append]; omega
          rw [hx1 j hj2, ← e]
          congr 1
          simp only [k1, tokCells_app]
          rw [List.getElem_append_left hj]
        have HP := Lib.hid hpre
        obtain ⟨m, hm⟩ : ∃ m, pre.length = m := ⟨_, rfl⟩
        rw [hm] at hm1
        have hpl : (tokCells pre).length = m * 4 := by rw [tokCells_len, hm]
        obtain ⟨kk, hkk⟩ : ∃ kk : Nat, x.size + 1 = kk := ⟨_, rfl⟩
        rw [hkk] at r1
        have hmv := fun W hT => moved_any (.slice A2 n2 c2) ts2 kk W hT (by have := L2.out; omega) (by omega) (fun z hz => by have := P2.out z hz; omega)
        obtain ⟨mv, hmv0⟩ : ∃ mv, ts2.map (movT kk) = mv := ⟨_, rfl⟩
        have hlmv : mv.length = n2 := by rw [← hmv0, List.length_map]; exact HN2.out
        rw [hmv0] at hmv r1
        unfold OwnTok at hmv
        rw [hlmv] at hmv
        have HMV := Lib.hid hmv
        have hts : TS wc (.slice A2 n2 c2) ts2 := ⟨A2, c2, by rw [HN2.out], by rw [HN2.out]; exact hc2, HR2.out⟩
        have HTS := Lib.hid hts
        have h3l : n3 = (pre ++ mv).length := by rw [← HN3.out, r1]
        have hts3 : TS wc (.slice A3 n3 c3) (pre ++ mv) := ⟨A3, c3, by rw [h3l], by rw [← h3l]; exact hc3, by rw [← r1]; exact HR3.out⟩
        have HTS3 := Lib.hid hts3
        have hL : n3 ≤ 513 := by rw [← HN3.out]; exact L3.out
        have heq := fun W v v' h h' => tokEqual_any v v' (pre ++ mv) (pre ++ mv) W h h' (by rw [← h3l]; omega) (by rw [← h3l]; omega)
        rw [decide_eq_true (show pre ++ mv = pre ++ mv from rfl)] at heq
        have HEQ := Lib.hid heq
        have hlm : m + n2 ≤ 513 := by rw [h3l, List.length_append, hm, hlmv] at hL; exact hL
        have hpml : (pre ++ mv).length = m + n2 := by rw [List.length_append, hm, hlmv]
        have HPML := Lib.hid hpml
        have HPL := Lib.hid hpl
        have HLMV := Lib.hid hlmv
        have hmc : m ≤ c1 := by omega
        have hadd : IntKind.i64.wrap ((x.size : Int) + 1) = (kk : Int) := by rw [IntWalk.i64_in _ (by omega)]; omega
        have hsub : IntKind.i64.wrap ((n1 : Int) - 1) = (m : Int) := by rw [IntWalk.i64_in _ (by omega)]; omega
        clear k1 k2 k3 r1 hx1 hpre hm hmv hmv0 hts hts3 heq hkk h3l hpml hpl hlmv hm1 hL
        subst r2 r3

        go_wp2
        refine wp_region_any (by kernel_rfl) ?_
        change wpAny _ _ _ _ _ _ _ (World.drew _)
        refine wpAny_take (i := 0) (v := .int .i64 0) rfl (by kernel_rfl) (by kernel_rfl) (by kernel_rfl) (fun _ _ _ h => h) (Or.inl ⟨by kernel_rfl, ?_⟩) ?_
        · intro w; go_simp
        refine wpAny_take (i := 1) (v := .bool true) rfl (by kernel_rfl) (by kernel_rfl) (by kernel_rfl) (fun _ _ _ h => h) (Or.inl ⟨by kernel_rfl, ?_⟩) ?_
        · intro w; go_simp
        refine wpAny_take (i := 2) (v := .bool true) rfl (by kernel_rfl) (by kernel_rfl) (by kernel_rfl) (fun _ _ _ h => h) (Or.inl ⟨by kernel_rfl, ?_⟩) ?_
        · intro w; go_simp
        refine wpAny_take (i := 3) (v := .slice A3 n3 c3) rfl (by kernel_rfl) (by kernel_rfl) (by kernel_rfl) (fun _ _ _ h => h) (Or.inl ⟨by kernel_rfl, ?_⟩) ?_
        · intro w; go_simp
        refine wpAny_take (i := 4) (v := .slice (some ⟨b1, o1, none⟩) n1 c1) rfl (by kernel_rfl) (by kernel_rfl) (by kernel_rfl) (fun _ _ _ h => h) (Or.inl ⟨by kernel_rfl, ?_⟩) ?_
        · intro w; go_simp
        refine wpAny_take (i := 5) (v := .slice (some ⟨b1, o1, none⟩) n1 c1) rfl (by kernel_rfl) (by kernel_rfl) (by kernel_rfl) (fun _ _ _ h => h) (Or.inl ⟨by kernel_rfl, ?_⟩) ?_
        · intro w; go_simp
        refine wpAny_take (i := 8) (v := .slice (some ⟨b1, o1, none⟩) n1 c1) rfl (by kernel_rfl) (by kernel_rfl) (by kernel_rfl) (fun _ _ _ h => h) (Or.inl ⟨by kernel_rfl, ?_⟩) ?_
        · intro w; go_simp
        refine wpAny_take (i := 12) (v := .slice A2 n2 c2) rfl (by kernel_rfl) (by kernel_rfl) (by kernel_rfl) (fun _ _ _ h => h) (Or.inl ⟨by kernel_rfl, ?_⟩) ?_
        · intro w; go_simp
        refine wpAny_take (i := 13) (v := .string x) rfl (by kernel_rfl) (by kernel_rfl) (by kernel_rfl) (fun _ _ _ h => h) (Or.inl ⟨by kernel_rfl, ?_⟩) ?_
        · intro w; go_simp
        refine wpAny_take (i := 6) (v := .int .i64 n1) rfl (by kernel_rfl) (by kernel_rfl) (by kernel_rfl) (fun _ _ _ h => h) (Or.inl ⟨by kernel_rfl, ?_⟩) ?_
        · intro w; go_simp
        refine wpAny_take (i := 9) (v := .int .i64 n1) rfl (by kernel_rfl) (by kernel_rfl) (by kernel_rfl) (fun _ _ _ h => h) (Or.inl ⟨by kernel_rfl, ?_⟩) ?_
        · intro w; go_simp
        refine wpAny_take (i := 7) (v := .int .i64 m) rfl (by kernel_rfl) (by kernel_rfl) (by kernel_rfl) (fun _ _ _ h => h) (Or.inl ⟨by kernel_rfl, ?_⟩) ?_
        · intro w; go_simp
        refine wpAny_take (i := 10) (v := .int .i64 m) rfl (by kernel_rfl) (by kernel_rfl) (by kernel_rfl) (fun _ _ _ h => h) (Or.inl ⟨by kernel_rfl, ?_⟩) ?_
        · intro w; go_simp
        refine wpAny_take (i := 14) (v := .int .i64 x.size) rfl (by kernel_rfl) (by kernel_rfl) (by kernel_rfl) (fun _ _ _ h => h) (Or.inl ⟨by kernel_rfl, ?_⟩) ?_
        · intro w; go_simp
        refine wpAny_take (i := 15) (v := .int .i64 kk) rfl (by kernel_rfl) (by kernel_rfl) (by kernel_rfl) (fun _ _ _ h => h) (Or.inl ⟨by kernel_rfl, ?_⟩) ?_
        · intro w; go_simp
        refine wpAny_take (i := 11) (v := .slice (some ⟨b1, o1, none⟩) m m) rfl (by kernel_rfl) (by kernel_rfl) (by kernel_rfl) (fun _ _ _ h => h) (Or.inl ⟨by kernel_rfl, ?_⟩) ?_
        · intro w; go_simp
        refine wpAny_ready (rs := [16]) (by kernel_rfl) (by simp) ?_
        refine AllReady.cons rfl (fun K hK => ?_) AllReady.nil
        go_simp
        refine (HMV.out wc.drew (HTS.out.drewN 1)).mono ?_
        rintro e w5 ⟨v5, rfl, hown5, hb5⟩
        obtain ⟨g5, cap5, rfl, hg51, hg52⟩ := hown5.form hn2p
        refine hK _ _ ?_
        clear hK K
        have hs5 : wc.heap.size ≤ w5.heap.size := hb5.size
        have hx5 : ∀ j u, (tokCells pre)[j]? = some u → w5.cell? ((⟨b1, o1, none⟩ : Addr).add j) = some u := fun j u hu => by
          have e1 : w5.cell? ⟨b1, o1 + j, none⟩ = wc.cell? ⟨b1, o1 + j, none⟩ := hb5.cell (p := ⟨b1, o1 + j, none⟩) hlt1
          have hadd2 : (⟨b1, o1, none⟩ : Addr).add j = ⟨b1, o1 + j, none⟩ := by unfold Addr.add; split <;> simp_all
          rw [hadd2, e1]; exact HP.out j u hu
        have hy5 : ∀ j u, (tokCells mv)[j]? = some u → w5.cell? ((⟨g5, 0, none⟩ : Addr).add j) = some u := fun j u hu => by
          obtain ⟨A, c, e, _, hr⟩ := Rd.of_own hown5
          obtain ⟨ad, e2, h⟩ := hr.at_ (by intro e; rw [e] at hu; simp at hu)
          subst e2
          obtain ⟨rfl, _, _⟩ : (⟨g5, 0, none⟩ : Addr) = ad ∧ n2 = n2 ∧ cap5 = c := by simpa using e
          exact h j u hu
        refine wpAny_ready (rs := [17]) (by kernel_rfl) (by simp) ?_
        refine AllReady.cons rfl (fun K hK => ?_) AllReady.nil
        refine step_grows_w (by kernel_rfl) (.tmp 124) (.tmp 129) 24 rfl 30 i0 _ 4 40 Tryd.underlying24 hi hz0 hz1 hz2 rfl (by decide) ⟨b1, o1, none⟩ m m (tokCells pre) (by kernel_rfl) HPL.out hx5 ⟨g5, 0, none⟩ n2 cap5 (tokCells mv) (by kernel_rfl) (by rw [tokCells_len, HLMV.out]) hy5 (by omega) (by unfold maxLen; omega) (by omega) ?_
        intro v6 w6 hown6 hgr6
        refine hK _ _ ?_
        clear hK K
        have hbig : Below w5.heap.size w5 w6 := (Below.refl _ _).grown hgr6 (Nat.le_refl _) (fun k e => by cases e)
        have hT6 : TS w6 v6 (pre ++ mv) := by
          have h := hown6
          rw [← tokCells_app] at h
          exact TS.of_own h
        have hT3 : TS w6 (.slice A3 n3 c3) (pre ++ mv) := (TS.below (w := wc.drew) HTS3.out hb5).below hbig
        have HT6 := Lib.hid hT6
        have HT3 := Lib.hid hT3
        clear hx5 hy5 hT6 hT3
        refine wpAny_ready (rs := [18]) (by kernel_rfl) (by simp) ?_
        refine AllReady.cons rfl (fun K hK => ?_) AllReady.nil
        go_simp
        refine (HEQ.out _ _ _ HT3.out HT6.out).mono ?_
        rintro e w7 ⟨rfl, n7, rfl⟩
        refine hK _ _ ?_
        clear hK K
        refine wpAny_take (i := 19) (v := .bool true) rfl (by kernel_rfl) (by kernel_rfl) (by kernel_rfl) (fun _ _ _ h => h) (Or.inl ⟨by kernel_rfl, ?_⟩) ?_
        · intro w; go_simp
        refine wpAny_take (i := 20) (v := .bool true) rfl (by kernel_rfl) (by kernel_rfl) (by kernel_rfl) (fun _ _ _ h => h) (Or.inl ⟨by kernel_rfl, ?_⟩) ?_
        · intro w; go_simp
        refine wpAny_done (by kernel_rfl) ?_ _
        go_wp2
        go_ret
        exact ⟨rfl, joinsFin HB.out hb5 hbig n7⟩
end Go.Proofs.YteeldajkfplomaaDoor
