/- The walk of ParseEnds. -/
import Derived.Test.YtalhoacancbldaaDoorEnds
import Derived.Test.YtalhoacancbldaaDoorPCuts
import Derived.Test.YtalhoacancbldaaDoorConcat
import Derived.Deep.DeepCutAuto
import Derived.Deep.RegionHeld3
import Derived.Deep.CutBlock
namespace Go.Proofs.YtalhoacancbldaaDoor
set_option linter.unusedVariables false
set_option linter.unusedSimpArgs false
open Go.RowKit
attribute [local go_sem] run_index_arr run_part_agg run_part_one run_field_agg

theorem bss_new {w : World} {v1 v2 : Value} {l1 l2 : List UInt8} (t : TypeId) (h1 : BS w v1 l1) (h2 : BS w v2 l2) : BSS (w.alloc (.cells #[v1, v2] t)) w.heap.size 0 [l1, l2] := by
  intro i l hi
  match i, hi with
  | 0, hi =>
    obtain rfl : l1 = l := by simpa using hi
    exact ⟨v1, by rw [(Blk.new w t #[v1, v2]).cell]; rfl, h1.alloc _⟩
  | 1, hi =>
    obtain rfl : l2 = l := by simpa using hi
    exact ⟨v2, by rw [(Blk.new w t #[v1, v2]).cell]; rfl, h2.alloc _⟩
  | i + 2, hi => simp at hi
theorem bss_at {w : World} {b : Nat} {v1 v2 : Value} {l1 l2 : List UInt8} (t : TypeId) (hb : b = w.heap.size) (h1 : BS w v1 l1) (h2 : BS w v2 l2) : BSS (w.alloc (.cells #[v1, v2] t)) b 0 [l1, l2] := by
  subst hb; exact bss_new t h1 h2
theorem BSS.drew {w : World} {b o : Nat} {ls : List (List UInt8)} (h : BSS w b o ls) : BSS w.drew b o ls := fun i l hi => by
  obtain ⟨v, h1, h2⟩ := h i l hi
  exact ⟨v, h1, h2.drewN 1⟩
theorem BSS.alloc {w : World} {b o : Nat} {ls : List (List UInt8)} (h : BSS w b o ls) (hb : b < w.heap.size) (x : Obj) : BSS (w.alloc x) b o ls := by
  intro i l hi
  obtain ⟨v, hc, hv⟩ := h i l hi
  exact ⟨v, ((Below.refl w.heap.size w).alloc (Nat.le_refl _) x).cell (p := ⟨b, o + i, none⟩) hb ▸ hc, hv.alloc _⟩
theorem dsz {W : World} : W.drew.heap.size = W.heap.size := rfl
theorem concat_g {W W' : World} {b' : Nat} {v1 v2 : Value} {l1 l2 : List UInt8} (h1 : BS W v1 l1) (h2 : BS W v2 l2) (hl : ([l1, l2] : List (List UInt8)).flatten.length ≤ 1048576)
    (hb : Below W.heap.size W W') (hlt : b' < W'.heap.size) (c0 : W'.cell? ⟨b', 0, none⟩ = some v1) (c1 : W'.cell? ⟨b', 1, none⟩ = some v2) :
    Calls Tryd.prog 34 #[.slice (some ⟨b', 0, none⟩) 2 2] W' (RetB5 ([l1, l2] : List (List UInt8)).flatten W') :=
  concat_any b' 0 2 2 [l1, l2] W' rfl (by decide) (by decide) hlt (fun i l hi => by
    match i, hi with
    | 0, hi => obtain rfl : l1 = l := by simpa using hi
               exact ⟨v1, c0, h1.below hb⟩
    | 1, hi => obtain rfl : l2 = l := by simpa using hi
               exact ⟨v2, c1, h2.below hb⟩
    | i + 2, hi => simp at hi) hl
theorem bw1 {W : World} {o : Obj} : Below W.heap.size W (W.alloc o).drew := ((Below.refl _ W).alloc (Nat.le_refl _) o).drew
theorem bw2 {W : World} {o o' : Obj} : Below W.heap.size W ((W.alloc o).alloc o').drew := (((Below.refl _ W).alloc (Nat.le_refl _) o).alloc (by rw [World.size_alloc]; omega) o').drew
theorem lt1 {W : World} {o : Obj} : W.heap.size < (W.alloc o).drew.heap.size := by rw [dsz, World.size_alloc]; omega
theorem lt2 {W : World} {o o' : Obj} : W.heap.size < ((W.alloc o).alloc o').drew.heap.size := by rw [dsz, World.size_alloc, World.size_alloc]; omega
theorem lt3 {W : World} {o o' : Obj} : W.heap.size + 1 < ((W.alloc o).alloc o').drew.heap.size := by rw [dsz, World.size_alloc, World.size_alloc]; omega
theorem bel_a {B : Nat} {w W w4 : World} {o : Obj} (h : Below B w W) (hB : B ≤ W.heap.size) (h4 : Below (W.alloc o).drew.heap.size (W.alloc o).drew w4) : Below B w w4 :=
  (bel_drewN (h.alloc hB o) 1).trans (h4.mono (by rw [dsz, World.size_alloc]; omega))
theorem bel_b {B : Nat} {w W w4 : World} {o o' : Obj} (h : Below B w W) (hB : B ≤ W.heap.size) (h4 : Below ((W.alloc o).alloc o').drew.heap.size ((W.alloc o).alloc o').drew w4) : Below B w w4 :=
  (bel_drewN ((h.alloc hB o).alloc (by rw [World.size_alloc]; omega) o') 1).trans (h4.mono (by rw [dsz, World.size_alloc, World.size_alloc]; omega))
theorem blk_b {W w4 w5 : World} {o : Obj} {t : TypeId} {zs : Array Value} (h4 : Below ((W.alloc o).alloc (.cells zs t)).drew.heap.size ((W.alloc o).alloc (.cells zs t)).drew w4) (h5 : Below w4.heap.size w4 w5) : Blk w5 (W.heap.size + 1) t zs := by
  have h := (((Blk.new (W.alloc o) t zs).drew).keep h4).keep h5
  rw [World.size_alloc] at h
  exact h
theorem blk_c {W w4 w5 : World} {o : Obj} {t : TypeId} {zs : Array Value} (h4 : Below ((W.alloc (.cells zs t)).alloc o).drew.heap.size ((W.alloc (.cells zs t)).alloc o).drew w4) (h5 : Below w4.heap.size w4 w5) : Blk w5 W.heap.size t zs :=
  ((((Blk.new W t zs).alloc o).drew).keep h4).keep h5
def PG (l : List UInt8) (w W' : World) (e : Ending) (w'' : World) : Prop :=
  ∃ (k n : Int) (s : List UInt8) (kids : List JV) (keys : List (List UInt8)) (A B : Option Addr) (ca cb : Nat) (a er : Int),
    e = .returned (.tuple #[.agg #[.int .i64 k, .int .i64 n, .string ⟨s.toArray⟩, .slice A kids.length ca, .slice B keys.length cb], .int .i64 a, .int .i64 er]) ∧ ParseR l (.mk k n s kids keys, a, er) ∧ Below w.heap.size w w'' ∧ Below W'.heap.size W' w''
theorem parse_g {w W' : World} {v : Value} {l : List UInt8} (hG : GOK w) (hb : Below w.heap.size w W') (hv : BS W' v l) (hl : l.length ≤ 1048576) : Calls Tryd.prog 27 #[v] W' (PG l w W') := by
  refine (parseParse_any v l W' (hG.keep hb) hv hl).mono ?_
  rintro e w5 ⟨⟨⟨k9, n9, t9, kd9, ky9⟩, a9, e9⟩, ho9, cs9, rfl, hvr9, hb9⟩
  obtain ⟨A9, B9, ca9, cb9, css9, rfl, _⟩ := hvr9.out
  exact ⟨k9, n9, t9, kd9, ky9, A9, B9, ca9, cb9, a9, e9, rfl, ho9, hb.trans (hb9.mono hb.size), hb9⟩
set_option maxRecDepth 100000 in
set_option maxHeartbeats 4000000 in
theorem parseEnds_any (v : Value) (x : List UInt8) (u : Value) (y : List UInt8) (w : World) (hG : GOK w) (hv : BS w v x) (hx : x.length ≤ 9223372036854775807) (hu : BS w u y) (hy : y.length ≤ 9223372036854775807) :
    Calls Tryd.prog 11 #[v, u] w (TrueK w) := by
  have HW := Lib.hid (wakes5_any w hG)
  have HG := Lib.hid hG
  clear hG
  obtain ⟨A, ca, rfl, hca, hra⟩ := hv
  obtain ⟨B, cb, rfl, hcb, hrb⟩ := hu
  obtain ⟨n, hn⟩ : ∃ n, min x.length 1000 = n := ⟨_, rfl⟩
  obtain ⟨k, hk⟩ : ∃ k, min y.length 900 = k := ⟨_, rfl⟩
  have hn1 : min (x.length : Int) 1000 = (n : Int) := by omega
  have hk1 : min (y.length : Int) 900 = (k : Int) := by omega
  have hnc : n ≤ ca := by omega
  have hkc : k ≤ cb := by omega
  have HB := Lib.hid (BS.takeN (n := n) ⟨A, ca, rfl, hca, hra⟩ (by omega))
  have HM := Lib.hid (BS.takeN (n := k) ⟨B, cb, rfl, hcb, hrb⟩ (by omega))
  have hbl : (x.take n).length = n := by rw [List.length_take]; omega
  have hml : (y.take k).length = k := by rw [List.length_take]; omega
  have hn8 : n ≤ 1000 := by omega
  have hk8 : k ≤ 900 := by omega
  clear hra hrb hn hk
  generalize x.take n = b at HB hbl
  generalize y.take k = mm at HM hml
  have HBL := Lib.hid hbl
  have HML := Lib.hid hml
  clear hbl hml
  go_enter Tryd.func11, Tryd.ntmps11
  go_wp2_with fail
  refine HW.out.mono ?_
  rintro e w1 ⟨rfl, hb1⟩
  have HB1 := Lib.hid hb1
  have hP := Lib.hid (parseParse_any (.slice A n ca) b w1 (HG.out.keep HB1.out) (HB.out.below HB1.out) (by have := HBL.out; omega))
  clear hb1
  go_wp2_with fail
  refine hP.out.mono ?_
  rintro e w2 ⟨⟨⟨k0, nn, tx, kids, keys⟩, a, er⟩, ho, cs, rfl, hvr, hb2⟩
  obtain ⟨A1, B1, c1, c2, css, rfl, _⟩ := hvr.out
  have HB2 := Lib.hid (HB1.out.trans (hb2.mono HB1.out.size))
  have HBA := Lib.hid (HB2.out.alloc HB2.out.size (.cells #[.int .i64 k0, .int .i64 nn, .string ⟨tx.toArray⟩, .slice A1 kids.length c1, .slice B1 keys.length c2] 40))
  have HO := Lib.hid ho
  clear hvr hb2 ho
  by_cases hs : er = 0 ∨ er = 6 ∨ er = 130 ∨ er = 141 ∨ er = 110
  · rcases hs with rfl | rfl | rfl | rfl | rfl
    all_goals
      go_wp2
      go_ret
      exact ⟨rfl, HBA.out⟩
  · have e0 : (er == 0) = false := by simp; omega
    have e1 : (er == 6) = false := by simp; omega
    have e2 : (er == 130) = false := by simp; omega
    have e3 : (er == 141) = false := by simp; omega
    have e4 : (er == 110) = false := by simp; omega
    have HNE := Lib.hid hs
    clear hs
    by_cases has : aside b a er
    · have HA := Lib.hid has
      obtain ⟨q, c, rfl, hc, hcc⟩ : ∃ (q : Nat) (c : UInt8), a = q ∧ b[q]? = some c ∧ (c.toNat = 92 ∨ (c.toNat < 32 ∧ er = 7)) := by
        have hs := HNE.out
        rcases has with h | h | h | h | ⟨h0, c, h1, h2⟩
        · exact absurd h (by omega)
        · exact absurd h (by omega)
        · exact absurd h (by omega)
        · exact absurd h (by omega)
        · exact ⟨a.toNat, c, by omega, h1, h2⟩
      clear has
      have hql : q < n := by have := get_lt hc; have := HBL.out; omega
      obtain ⟨bk, of_, cp, e, _, hbk, hrd⟩ := HB.out.some_ (by intro e; rw [e] at hc; simp at hc)
      injection e with ea el eb
      subst ea; subst eb; clear el
      have hcell := hrd q c hc
      have hcw := ((bcell HBA.out).1 bk _ hbk).trans hcell
      clear hrd hcell hc
      rcases hcc with hcc | ⟨hcc, rfl⟩
      · rw [hcc] at hcw
        go_wp2
        go_ret
        exact ⟨rfl, HBA.out⟩
      · have h92 : ((c.toNat : Int) == 92) = false := by simp; omega
        go_wp2
        go_ret
        exact ⟨rfl, HBA.out⟩
    · obtain ⟨q, hq, hql, hlaw⟩ := ends_law (by have := HBL.out; omega) HO.out (fun h => HNE.out (.inl h)) has
      obtain rfl : a = (q : Int) := hq
      have HLAW := Lib.hid hlaw
      have hqn : q < n := by have := HBL.out; omega
      have hql2 : ¬ b.length ≤ q := by omega
      obtain ⟨c, hc⟩ : ∃ c, b[q]? = some c := ⟨_, List.getElem?_eq_getElem hql⟩
      obtain ⟨bk, of_, cp, e, _, hbk, hrd⟩ := HB.out.some_ (by intro e; rw [e] at hc; simp at hc)
      injection e with ea el eb
      subst ea; subst eb; clear el
      have hcell := hrd q c hc
      have hcw := ((bcell HBA.out).1 bk _ hbk).trans hcell
      have hna : ¬ (c.toNat = 92 ∨ (c.toNat < 32 ∧ er = 7)) := fun h => has (.inr (.inr (.inr (.inr ⟨by omega, c, by simpa using hc, h⟩))))
      have h92 : ((c.toNat : Int) == 92) = false := by simp; omega
      clear hrd hcell hc hql has hlaw
      have HNA := Lib.hid hna
      clear hna
      obtain ⟨W3, hW3⟩ : ∃ W3, w2.alloc (.cells #[.int .i64 k0, .int .i64 nn, .string ⟨tx.toArray⟩, .slice A1 kids.length c1, .slice B1 keys.length c2] 40) = W3 := ⟨_, rfl⟩
      obtain ⟨q1, hq1⟩ : ∃ q1, q + 1 = q1 := ⟨_, rfl⟩
      rw [hW3] at HBA hcw
      go_upto_region 14 with (fail)
      have hs1 : BS W3 (.slice (some ⟨bk, of_, none⟩) q1 ca) (b.take q1) := BS.takeN (HB.out.below HBA.out) (by have := HBL.out; omega)
      have hs2 := HM.out.below HBA.out
      have HS1 := Lib.hid hs1
      have HS2 := Lib.hid hs2
      have hG3 := Lib.hid (HG.out.keep HBA.out)
      have hlen : ([b.take q1, mm] : List (List UInt8)).flatten.length ≤ 1048576 := by
        have := HML.out
        simp
        omega
      have HLEN := Lib.hid hlen
      have HL2 := Lib.hid (show ([b.take q1, mm] : List (List UInt8)).flatten.length ≤ 2048 by
        have := HML.out
        have := HBL.out
        simp
        omega)
      have HT := Lib.hid (show b.take (q + 1) = (([b.take q1, mm] : List (List UInt8)).flatten).take (q + 1) by
        have h1 : (b.take q1).length = q1 := by rw [List.length_take]; have := HBL.out; omega
        rw [hq1, List.flatten_cons, List.take_append_of_le_length (by omega)]
        exact (List.take_of_length_le (by omega)).symm)
      have hadd : IntKind.i64.wrap ((q : Int) + 1) = (q1 : Int) := by rw [IntWalk.i64_in _ (by omega)]; omega
      have hq1c : q1 ≤ ca := by omega
      clear hs1 hs2 hlen
      clear hW3
      go_cut [51] (fun s51 wx => s51 = .bool false ∧ wx = W3)
      case first =>
        have hna := HNA.out
        by_cases h32 : c.toNat < 32
        · have h7 : (er == 7) = false := by
            have : ¬ er = 7 := fun e => hna (.inr ⟨h32, e⟩)
            simpa using this
          have h32i : (c.toNat : Int) < 32 := by omega
          clear hna HNA
          go_wp2
          go_meet
          case rel => exact ⟨rfl, rfl⟩
        · have h32i : ¬ (c.toNat : Int) < 32 := by omega
          clear hna HNA
          go_wp2
          go_meet
          case rel => exact ⟨rfl, rfl⟩
      case rest =>
        obtain ⟨rfl, rfl⟩ := hcut
        clear hcw
        go_upto_region 16 with (fail)
        go_cut [10, 11] (fun s10 s11 wx => s10 = .int .i64 q ∧ s11 = .int .i64 er ∧ Hid (Below w.heap.size w wx))
        case first =>
          go_region_held3 (fun w' => True) (go_keep) (first
            | (go_at_call 34
               refine (concat_g HS1.out HS2.out HLEN.out ?_ ?_ ?_ ?_).mono ?_
               (first | exact bw1 | exact bw2)
               (first | exact lt1 | exact lt2 | exact lt3)
               go_simp
               go_simp
               rintro e w4 ⟨v4, rfl, hv4, hb4⟩)
            | (go_at_call 27
               refine (parse_g HG.out ?_ ?_ HLEN.out).mono ?_
               (first | exact bel_a HBA.out HBA.out.size hb4 | exact (bel_a HBA.out HBA.out.size hb4).alloc (bel_a HBA.out HBA.out.size hb4).size _ | exact bel_b HBA.out HBA.out.size hb4)
               (first | exact hv4 | exact hv4.alloc _)
               rintro e w5 ⟨k9, n9, t9, kd9, ky9, A9, B9, ca9, cb9, a9, e9, rfl, ho9, hbf, hb9⟩
               have hlw := HLAW.out _ _ HL2.out HT.out ho9
               simp only at hlw
               obtain ⟨rfl, rfl⟩ := hlw
               (first | (have hB9 := (Blk.new w4 40 #[.int .i64 0, .int .i64 0, .string ⟨#[]⟩, .slice none 0 0, .slice none 0 0]).keep hb9; obtain ⟨hc9, hf9, hl9⟩ := hB9.rules) | (have hB9 := blk_b hb4 hb9; have hC9 := blk_c hb4 hb9; obtain ⟨hc9, hf9, hl9⟩ := hB9.rules; obtain ⟨hc8, hf8, hl8⟩ := hC9.rules) | skip)))
          · go_wp2
            go_meet
            case rel => exact ⟨rfl, rfl, Lib.hid (hbf.alloc hbf.size _)⟩
          · go_wp2
            go_meet
            case rel => exact ⟨rfl, rfl, Lib.hid (bel_put5 hbf (bel_a HBA.out HBA.out.size hb4).size _ _ _ _ _)⟩
          · go_wp2
            go_meet
            case rel => exact ⟨rfl, rfl, Lib.hid (bel_put5 hbf (Nat.le_succ_of_le HBA.out.size) _ _ _ _ _)⟩
          · go_wp2
            go_meet
            case rel => exact ⟨rfl, rfl, Lib.hid (bel_put5 hbf HBA.out.size _ _ _ _ _)⟩
          · go_wp2
            go_meet
            case rel => exact ⟨rfl, rfl, Lib.hid (bel_put5 hbf HBA.out.size _ _ _ _ _)⟩
        case rest =>
          obtain ⟨rfl, rfl, hbx⟩ := hcut
          go_wp2
          go_ret
          exact ⟨rfl, hbx.out⟩
end Go.Proofs.YtalhoacancbldaaDoor
