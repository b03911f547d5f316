/- The walks of the reference davenportref05: has, sorted. -/
import Derived.Test.YtalhoacancbldaaDoorRead5e
import Derived.Test.YtalhoacancbldaaDoorRightP
import Derived.Deep.CutBlock
import Derived.Deep.RegionLawGrows
namespace Go.Proofs.YtalhoacancbldaaDoor
set_option linter.unusedVariables false
set_option linter.unusedSimpArgs false
open Go.RowKit
attribute [local go_sem] run_index_arr run_part_agg run_part_one run_field_agg

theorem strV_get {keys : List (List UInt8)} {i : Nat} {k : List UInt8} (h : keys[i]? = some k) : (strV keys)[i]? = some (.string ⟨k.toArray⟩) := by unfold strV; rw [List.getElem?_map, h]; rfl
theorem strV_at {w : World} {B : Option Addr} {keys : List (List UInt8)} (h : Rd w B (strV keys)) (hn : 0 < keys.length) : ∃ b o, B = some ⟨b, o, none⟩ ∧ b < w.heap.size ∧ ∀ i k, keys[i]? = some k → w.cell? ⟨b, o + i, none⟩ = some (.string ⟨k.toArray⟩) := by
  obtain ⟨b, o, e, hb, hx⟩ := h (by intro e; have := congrArg List.length e; rw [strV_len, List.length_nil] at this; omega)
  refine ⟨b, o, e, hb, fun i k hk => ?_⟩
  obtain ⟨h1, h2⟩ := List.getElem?_eq_some_iff.1 (strV_get hk)
  rw [hx i h1, h2]
set_option maxRecDepth 100000 in
set_option maxHeartbeats 4000000 in
theorem t5has_any (B : Option Addr) (cb : Nat) (keys : List (List UInt8)) (s : List UInt8) (w : World) (hr : Rd w B (strV keys)) (hc : keys.length ≤ cb) (hlen : keys.length ≤ 1048576) :
    Calls Tryd.prog 82 #[.slice B keys.length cb, .string ⟨s.toArray⟩] w fun e w' => e = .returned (.bool (decide (s ∈ keys))) ∧ w = w' := by
  obtain ⟨bb, hbb⟩ : ∃ bb, decide (s ∈ keys) = bb := ⟨_, rfl⟩
  rw [hbb]
  have HBB := Lib.hid hbb
  have HR := Lib.hid hr
  clear hbb hr
  go_enter Tryd.func82, Tryd.ntmps82
  go_wp2
  go_loopg [5] keys.length (fun gk s5 wr => ∃ i : Nat, i ≤ keys.length ∧ gk = keys.length - i ∧ s5 = .int .i64 i ∧ w = wr ∧ Hid (s ∉ keys.take i))
  case atStart => exact ⟨0, Nat.zero_le _, rfl, rfl, rfl, Lib.hid (by simp)⟩
  case round =>
    obtain ⟨i, hi, hgk, rfl, rfl, HN⟩ := hrel
    have HG := Lib.hid hgk
    clear hgk
    by_cases hlt : i < keys.length
    · obtain ⟨k, hk⟩ : ∃ k, keys[i]? = some k := ⟨_, List.getElem?_eq_getElem hlt⟩
      obtain ⟨b, o, rfl, hb, hx⟩ := strV_at HR.out (by omega)
      have hxk := hx i k hk
      have HK := Lib.hid hk
      clear hx hk
      by_cases hks : k = s
      · subst hks
        go_wp2
        go_ret
        refine ⟨ret_bool ?_, rfl⟩
        rw [← HBB.out]
        exact (decide_eq_true (List.mem_of_getElem? HK.out)).symm
      · have hse : (k == s) = false := by simpa using hks
        go_wp2
        go_roundg (keys.length - (i + 1))
        case measure => rw [HG.out]; omega
        case rel =>
          refine ⟨i + 1, hlt, rfl, by go_num, rfl, Lib.hid ?_⟩
          rw [List.take_add_one, HK.out]
          intro h
          rcases List.mem_append.1 h with h | h
          · exact HN.out h
          · exact hks (by simp at h; exact h.symm)
    · obtain rfl : keys.length = i := by omega
      go_wp2
      go_ret
      refine ⟨ret_bool ?_, rfl⟩
      rw [← HBB.out]
      have := HN.out
      rw [List.take_of_length_le (Nat.le_refl _)] at this
      exact (decide_eq_false this).symm

theorem own_drewN {w : World} {base : Nat} {e : TypeId} {size n : Nat} {v : Value} {xs : List Value} (h : w.ownsRow base e size v n xs) (q : Nat) : (w.drewN q).ownsRow base e size v n xs := h
theorem own_ne {w : World} {b1 b2 n1 n2 z1 z2 : Nat} {e1 e2 : TypeId} {v1 v2 : Value} {x1 x2 : List Value} (h1 : w.ownsRow b1 e1 z1 v1 n1 x1) (h2 : w.ownsRow b2 e2 z2 v2 n2 x2) (hne : e1 ≠ e2) : v1.ownBlock = none ∨ v1.ownBlock ≠ v2.ownBlock := by
  rcases h1.2 with ⟨rfl, _⟩ | ⟨g1, c1, u1, rfl, _, hg1, _⟩
  · exact .inl rfl
  · refine .inr fun e => ?_
    rcases h2.2 with ⟨rfl, _⟩ | ⟨g2, c2, u2, rfl, _, hg2, _⟩
    · simp [Value.ownBlock] at e
    · simp only [Value.ownBlock, Option.some.injEq] at e
      subst e
      rw [hg1] at hg2
      injection hg2 with h
      injection h with _ h _
      exact hne h
/-- three blocks of one's own, and the kids that are copied -/
def S3 (lo : Nat) (w : World) (cs vc : List Value) (css : List (List Value)) (xs : List JV) (wr : World) : Prop :=
  Blk wr w.heap.size 40 cs.toArray ∧ Blk wr (w.heap.size + 1) 40 zVal ∧ Blk wr (w.heap.size + 1 + 1) 40 vc.toArray ∧ VRs wr (fun b => lo ≤ b ∧ b < w.heap.size) css xs ∧ Below w.heap.size w wr
theorem S3.grow {lo : Nat} {w wr w6 : World} {cs vc : List Value} {css : List (List Value)} {xs : List JV} {o : Obj} {row : Option Nat} (h : S3 lo w cs vc css xs wr) (hg : (wr.alloc o).drew.grownBy w6 row) (hr : ∀ k, row = some k → w.heap.size + 1 + 1 + 1 ≤ k) : S3 lo w cs vc css xs w6 := by
  have hn : ∀ g, g ≤ w.heap.size + 1 + 1 → some g ≠ row := fun g hg e => by have := hr g e.symm; omega
  have hb : Below wr.heap.size wr (wr.alloc o).drew := ((Below.refl _ wr).alloc (Nat.le_refl _) o).drew
  refine ⟨(h.1.keep hb).grown hg (hn _ (by omega)), (h.2.1.keep hb).grown hg (hn _ (by omega)), (h.2.2.1.keep hb).grown hg (hn _ (by omega)), ?_, ?_⟩
  · exact (h.2.2.2.1.below hb).keep (KeepF.of_grown hg fun b hb' e => by have := hr b e.symm; omega)
  · have h1 := h.2.2.2.2.trans (hb.mono h.2.2.2.2.size)
    exact h1.grown hg h1.size (fun k e => by have := hr k e; omega)
theorem S3.vset {lo : Nat} {w wr : World} {cs vc : List Value} {css : List (List Value)} {xs : List JV} (h : S3 lo w cs vc css xs wr) (i : Nat) (u : Value) : S3 lo w cs (vc.set i u) css xs (wr.setCell ⟨w.heap.size + 1 + 1, i, none⟩ u) := by
  refine ⟨h.1.far (by show _ ≠ w.heap.size + 1 + 1; omega) _, h.2.1.far (by show _ ≠ w.heap.size + 1 + 1; omega) _, ?_, h.2.2.2.1.keep (KeepF.refl.set (fun b hb => by omega) i _), h.2.2.2.2.setCell (p := ⟨w.heap.size + 1 + 1, i, none⟩) (by show w.heap.size ≤ w.heap.size + 1 + 1; omega) _⟩
  have := h.2.2.1.set_ i u
  simpa using this
theorem S3.drew {lo : Nat} {w wr : World} {cs vc : List Value} {css : List (List Value)} {xs : List JV} (h : S3 lo w cs vc css xs wr) : S3 lo w cs vc css xs wr.drew :=
  ⟨h.1.drew, h.2.1.drew, h.2.2.1.drew, h.2.2.2.1.keep ⟨Nat.le_refl _, fun _ _ _ => rfl⟩, h.2.2.2.2.drew⟩
/-- the two rows of an object under way -/
def SW (lo : Nat) (w : World) (cs : List Value) (AK AV : Option Addr) (cK cV t : Nat) (ks : List (List UInt8)) (css : List (List Value)) (xs : List JV) (wr : World) : Prop :=
  Blk wr w.heap.size 40 cs.toArray ∧ Blk wr (w.heap.size + 1) 40 zVal ∧ Blk wr (w.heap.size + 1 + 1) 40 #[.int .i64 6, .int .i64 0, .string ⟨#[]⟩, .slice AV t cV, .slice AK t cK] ∧
  wr.ownsRow (w.heap.size + 1 + 1 + 1) 9 1 (.slice AK t cK) t (strV (ks.take t)) ∧ wr.ownsRow (w.heap.size + 1 + 1 + 1) 40 5 (.slice AV t cV) t css.flatten ∧
  VRs wr (fun b => lo ≤ b ∧ b < w.heap.size) css (xs.take t) ∧ Below w.heap.size w wr
theorem SW.drewN {lo : Nat} {w wr : World} {cs : List Value} {AK AV : Option Addr} {cK cV t : Nat} {ks : List (List UInt8)} {css : List (List Value)} {xs : List JV} (h : SW lo w cs AK AV cK cV t ks css xs wr) (q : Nat) : SW lo w cs AK AV cK cV t ks css xs (wr.drewN q) :=
  ⟨h.1.drewN q, h.2.1.drewN q, h.2.2.1.drewN q, own_drewN h.2.2.2.1 q, own_drewN h.2.2.2.2.1 q, h.2.2.2.2.2.1.keep ⟨Nat.le_refl _, fun _ _ _ => rfl⟩, bel_drewN h.2.2.2.2.2.2 q⟩
/-- the least of those that are looked at and not yet taken -/
def Least (keys tk : List (List UInt8)) (i : Nat) (s4 : Value) : Prop :=
  (s4 = .int .i64 (-1) ∧ ∀ (j : Nat) k, j < i → keys[j]? = some k → k ∈ tk) ∨
  ∃ (j : Nat) (k : List UInt8), s4 = .int .i64 j ∧ j < i ∧ keys[j]? = some k ∧ k ∉ tk ∧ ∀ (j' : Nat) k', j' < i → keys[j']? = some k' → k' ∉ tk → ¬ ltB k' k = true
set_option maxRecDepth 100000 in
set_option maxHeartbeats 4000000 in
theorem t5sorted_any (lo : Nat) (cs : List Value) (kids : List JV) (keys : List (List UInt8)) (w : World) (hvr : VR w (fun b => lo ≤ b) cs (.mk 6 0 [] kids keys)) (hlo : lo ≤ w.heap.size) (hl : keys.length = kids.length) (hnd : keys.Nodup) (hlen : keys.length ≤ 1048576) :
    Calls Tryd.prog 83 #[.agg cs.toArray] w fun e w' => ∃ cs' : List Value, e = .returned (.agg cs'.toArray) ∧ VR w' (fun b => lo ≤ b) cs' (sortedJ keys kids) ∧ Below w.heap.size w w' := by
  obtain ⟨iv, hiv, hv0, hv1, hv2⟩ := info_parts infoVal
  obtain ⟨is, his, hs0, hs1, hs2⟩ := info_parts infoStr
  obtain ⟨ks, xs, hsort, hks, hxs, hup, hz⟩ := sorted_is hl hnd
  rw [hsort]
  have hvr' : VR w (fun b => lo ≤ b ∧ b < w.heap.size) cs (.mk 6 0 [] kids keys) := hvr.mono fun b hb h => ⟨h, hb⟩
  obtain ⟨A, B, ca, cb, css0, rfl, hvs, hca, hcb, hA, hB, hrv, hrk⟩ := hvr'.out
  obtain ⟨n, hn⟩ : ∃ n, keys.length = n := ⟨_, rfl⟩
  have hnk : kids.length = n := by omega
  rw [hn] at hcb hks hxs hlen ⊢
  rw [hnk] at hca ⊢
  have HZ := Lib.hid hz
  have HU := Lib.hid hup
  have HN := Lib.hid hn
  have HNK := Lib.hid hnk
  have HKS := Lib.hid hks
  have HXS := Lib.hid hxs
  have HVS := Lib.hid hvs
  have HRV := Lib.hid hrv.rd
  have HRK := Lib.hid hrk.rd
  have HIV := Lib.hid hiv
  have HIS := Lib.hid his
  clear hvr hvr' hsort hz hup hn hnk hks hxs hvs hrv hrk hiv his hl hnd hA hB
  go_enter Tryd.func83, Tryd.ntmps83
  go_wp2
  obtain ⟨W1, hW1⟩ : ∃ W1, ((w.alloc (.cells #[.int .i64 6, .int .i64 0, .string ⟨#[]⟩, .slice A n ca, .slice B n cb] 40)).alloc (.cells zVal 40)).alloc (.cells #[.int .i64 6, .int .i64 0, .string ⟨#[]⟩, .slice none 0 0, .slice none 0 0] 40) = W1 := ⟨_, rfl⟩
  have hsw : SW lo w [.int .i64 6, .int .i64 0, .string ⟨#[]⟩, .slice A n ca, .slice B n cb] none none 0 0 0 ks [] xs W1 := by
    rw [← hW1]
    refine ⟨((Blk.new w _ _).alloc _).alloc _, ?_, ?_, ?_, ?_, ?_, (((Below.refl _ w).alloc (Nat.le_refl _) _).alloc (by simp) _).alloc (by simp; omega) _⟩
    · have := (Blk.new (w.alloc (.cells #[.int .i64 6, .int .i64 0, .string ⟨#[]⟩, .slice A n ca, .slice B n cb] 40)) 40 zVal).alloc (.cells #[.int .i64 6, .int .i64 0, .string ⟨#[]⟩, .slice none 0 0, .slice none 0 0] 40)
      rw [World.size_alloc] at this; exact this
    · have := Blk.new ((w.alloc (.cells #[.int .i64 6, .int .i64 0, .string ⟨#[]⟩, .slice A n ca, .slice B n cb] 40)).alloc (.cells zVal 40)) 40 #[.int .i64 6, .int .i64 0, .string ⟨#[]⟩, .slice none 0 0, .slice none 0 0]
      rw [World.size_alloc, World.size_alloc] at this; exact this
    · exact World.ownsRow_nil _ _ _ _
    · exact World.ownsRow_nil _ _ _ _
    · exact VRs.nil
  have HSW := Lib.hid hsw
  try rw [hW1]
  clear hW1 hsw
  go_loopg [4, 5] n (fun gk _ _ wr => ∃ (t : Nat) (AK AV : Option Addr) (cK cV : Nat) (css : List (List Value)), t ≤ n ∧ gk = n - t ∧ Hid (SW lo w [.int .i64 6, .int .i64 0, .string ⟨#[]⟩, .slice A n ca, .slice B n cb] AK AV cK cV t ks css xs wr))
  case atStart => exact ⟨0, none, none, 0, 0, [], Nat.zero_le _, rfl, HSW⟩
  case round =>
    obtain ⟨t, AK, AV, cK, cV, css, ht, hgk, HW⟩ := hrel
    have HG := Lib.hid hgk
    clear hgk HSW
    obtain ⟨wo, rfl⟩ : ∃ wo : World, wo = wr := ⟨_, rfl⟩
    obtain ⟨c1, f1, l1⟩ := HW.out.1.rules
    obtain ⟨c2, f2, l2⟩ := HW.out.2.1.rules
    obtain ⟨c3, f3, l3⟩ := HW.out.2.2.1.rules
    by_cases hlt : t < n
    · go_upto_block 2 with fail
      go_cut [4] (fun s4 wx => ∃ (j q : Nat) (k : List UInt8), s4 = .int .i64 j ∧ j < n ∧ wx = wo.drewN q ∧ Hid (keys[j]? = some k) ∧ Hid (ks[t]? = some k ∧ ∃ x, kids[j]? = some x ∧ xs[t]? = some x))
      case first =>
        go_wp2
        go_loopg [4, 5] n (fun gk s4 s5 wx => ∃ (i q : Nat) (sv : Value), i ≤ n ∧ gk = n - i ∧ s5 = .int .i64 i ∧ wx = wo.drewN q ∧ sv = s4 ∧ Hid (Least keys (ks.take t) i sv))
        case atStart => exact ⟨0, 0, _, Nat.zero_le _, rfl, rfl, rfl, rfl, Lib.hid (.inl ⟨rfl, fun j k h => absurd h (Nat.not_lt_zero _)⟩)⟩
        case round =>
          obtain ⟨i, q, sv, hi, hgk2, rfl, rfl, rfl, HL⟩ := hrel
          have HG2 := Lib.hid hgk2
          clear hgk2
          have htl : (ks.take t).length = t := by rw [List.length_take, HKS.out]; omega
          by_cases hlt2 : i < n
          · obtain ⟨key, hkey⟩ : ∃ k, keys[i]? = some k := ⟨_, List.getElem?_eq_getElem (by rw [HN.out]; exact hlt2)⟩
            obtain ⟨b, o, rfl, hb, hx⟩ := strV_at HRK.out (by rw [HN.out]; omega)
            have hxs : ∀ i k, keys[i]? = some k → wo.cell? ⟨b, o + i, none⟩ = some (.string ⟨k.toArray⟩) := fun i k hk => ((bcell HW.out.2.2.2.2.2.2).1 b _ hb).trans (hx i k hk)
            have hxi := hxs i key hkey
            obtain ⟨AK', cK', eK, hK1, hK2⟩ := Rd.of_own HW.out.2.2.2.1
            injection eK with eK1 _ eK2
            subst eK1; subst eK2
            have hhas := fun W (h : Rd W AK (strV (ks.take t))) => t5has_any AK cK (ks.take t) key W h (by rw [htl]; exact hK1) (by rw [htl]; omega)
            rw [htl] at hhas
            have HK2 := Lib.hid hK2
            have HKEY := Lib.hid hkey
            have HXS2 := Lib.hid hxs
            clear hx hxs hkey hK2
            by_cases hin : key ∈ ks.take t
            · rw [decide_eq_true hin] at hhas
              have HH := Lib.hid hhas
              clear hhas
              have HL2 := Lib.hid (show Least keys (ks.take t) (i + 1) sv by
                rcases HL.out with ⟨e, h⟩ | ⟨j, k, e, h1, h2, h3, h4⟩
                · refine .inl ⟨e, fun j k hj hk => ?_⟩
                  rcases Nat.lt_or_ge j i with h' | h'
                  · exact h j k h' hk
                  · obtain rfl : j = i := by omega
                    rw [HKEY.out] at hk; injection hk with hk; rw [← hk]; exact hin
                · refine .inr ⟨j, k, e, by omega, h2, h3, fun j' k' hj' hk' hn => ?_⟩
                  rcases Nat.lt_or_ge j' i with h' | h'
                  · exact h4 j' k' h' hk' hn
                  · obtain rfl : j' = i := by omega
                    rw [HKEY.out] at hk'; injection hk' with hk'; rw [← hk'] at hn; exact absurd hin hn)
              clear HL hin
              go_wp2
              go_quiet ((go_at_call 82; exact (HH.out _ (HK2.out.drewN _)).mono fun e w' h => ⟨h.1, _, h.2.symm⟩))
              go_wp2
              go_roundg (n - (i + 1))
              case measure => rw [HG2.out]; omega
              case rel => exact ⟨i + 1, q + nq, _, hlt2, rfl, by go_num, rfl, rfl, HL2⟩
            · rw [decide_eq_false hin] at hhas
              have HH := Lib.hid hhas
              clear hhas
              rcases HL.out with ⟨rfl, hall⟩ | ⟨j, kj, rfl, h1, h2, h3, h4⟩
              · have HL2 := Lib.hid (show Least keys (ks.take t) (i + 1) (.int .i64 i) from .inr ⟨i, key, rfl, by omega, HKEY.out, hin, fun j' k' hj' hk' hn => by
                  rcases Nat.lt_or_ge j' i with h' | h'
                  · exact absurd (hall j' k' h' hk') hn
                  · obtain rfl : j' = i := by omega
                    rw [HKEY.out] at hk'; injection hk' with hk'; rw [← hk']; exact ltB_irrefl _⟩)
                clear HL hin hall
                go_wp2
                go_quiet ((go_at_call 82; exact (HH.out _ (HK2.out.drewN _)).mono fun e w' h => ⟨h.1, _, h.2.symm⟩))
                go_wp2
                go_roundg (n - (i + 1))
                case measure => rw [HG2.out]; omega
                case rel => exact ⟨i + 1, q + nq, _, hlt2, rfl, by go_num, rfl, rfl, HL2⟩
              · have hxj := HXS2.out j kj h2
                have hbl : Op.bytesLess key kj = ltB key kj := rfl
                have hjn : j < n := by omega
                cases hlb : ltB key kj with
                | true =>
                  rw [hlb] at hbl
                  have HL2 := Lib.hid (show Least keys (ks.take t) (i + 1) (.int .i64 i) from .inr ⟨i, key, rfl, by omega, HKEY.out, hin, fun j' k' hj' hk' hn hlt' => by
                    rcases Nat.lt_or_ge j' i with h' | h'
                    · exact h4 j' k' h' hk' hn (ltB_trans hlt' hlb)
                    · obtain rfl : j' = i := by omega
                      rw [HKEY.out] at hk'; injection hk' with hk'; rw [← hk'] at hlt'; exact ltB_irrefl _ hlt'⟩)
                  clear HL hin h2 h3 h4 hlb
                  go_wp2
                  go_quiet ((go_at_call 82; exact (HH.out _ (HK2.out.drewN _)).mono fun e w' h => ⟨h.1, _, h.2.symm⟩))
                  go_wp2
                  go_roundg (n - (i + 1))
                  case measure => rw [HG2.out]; omega
                  case rel => exact ⟨i + 1, q + nq, _, hlt2, rfl, by go_num, rfl, rfl, HL2⟩
                | false =>
                  rw [hlb] at hbl
                  have HL2 := Lib.hid (show Least keys (ks.take t) (i + 1) (.int .i64 j) from .inr ⟨j, kj, rfl, by omega, h2, h3, fun j' k' hj' hk' hn => by
                    rcases Nat.lt_or_ge j' i with h' | h'
                    · exact h4 j' k' h' hk' hn
                    · obtain rfl : j' = i := by omega
                      rw [HKEY.out] at hk'; injection hk' with hk'; rw [← hk', hlb]; simp⟩)
                  clear HL hin h2 h3 h4 hlb
                  go_wp2
                  go_quiet ((go_at_call 82; exact (HH.out _ (HK2.out.drewN _)).mono fun e w' h => ⟨h.1, _, h.2.symm⟩))
                  go_wp2
                  go_roundg (n - (i + 1))
                  case measure => rw [HG2.out]; omega
                  case rel => exact ⟨i + 1, q + nq, _, hlt2, rfl, by go_num, rfl, rfl, HL2⟩
          · obtain rfl : n = i := by omega
            rcases HL.out with ⟨rfl, hall⟩ | ⟨j, kj, rfl, h1, h2, h3, h4⟩
            · exfalso
              obtain ⟨kt, hkt⟩ : ∃ k, ks[t]? = some k := ⟨_, List.getElem?_eq_getElem (by rw [HKS.out]; exact hlt)⟩
              obtain ⟨xt, hxt⟩ : ∃ x, xs[t]? = some x := ⟨_, List.getElem?_eq_getElem (by rw [HXS.out]; exact hlt)⟩
              have hm : (kt, xt) ∈ keys.zip kids := by
                rw [← HZ.out, List.mem_iff_getElem?]
                exact ⟨t, by rw [List.getElem?_zip_eq_some]; exact ⟨hkt, hxt⟩⟩
              obtain ⟨j, hj⟩ := List.mem_iff_getElem?.1 hm
              rw [List.getElem?_zip_eq_some] at hj
              have hjn := (List.getElem?_eq_some_iff.1 hj.1).1
              have h5 := hall j kt (by rw [HN.out] at hjn; exact hjn) hj.1
              obtain ⟨j2, hj2⟩ := List.mem_iff_getElem?.1 h5
              rw [List.getElem?_take] at hj2
              split at hj2
              · rename_i hlt3
                obtain ⟨hl3, e4⟩ := List.getElem?_eq_some_iff.1 hj2
                obtain ⟨hl4, e5⟩ := List.getElem?_eq_some_iff.1 hkt
                have := List.pairwise_iff_getElem.1 HU.out j2 t hl3 hl4 hlt3
                rw [e4, e5] at this
                exact ltB_irrefl _ this
              · cases hj2
            · have hp := pick HU.out (by rw [HN.out, HNK.out]) (by rw [HKS.out, HXS.out]) HZ.out (by rw [HKS.out]; exact hlt) h2 h3 (fun j' k' hk' hn => h4 j' k' (by have := (List.getElem?_eq_some_iff.1 hk').1; rw [HN.out] at this; exact this) hk' hn)
              have HP := Lib.hid hp
              have HJ := Lib.hid h2
              clear hp h2 h3 h4 HL
              go_wp2
              go_meet
              case rel => exact ⟨j, q, kj, rfl, h1, rfl, HJ, HP⟩
      case rest =>
        obtain ⟨j, q, k, rfl, hjn, rfl, HJ, HP⟩ := hcut
        obtain ⟨Wn, hWn⟩ : ∃ Wn, wo.drewN q = Wn := ⟨_, rfl⟩
        have hwn := HW.out.drewN q
        rw [hWn] at hwn ⊢
        have HWN := Lib.hid hwn
        clear hwn hWn c1 f1 l1 c2 f2 l2 c3 f3 l3 HW
        obtain ⟨b, o, rfl, hb, hx⟩ := strV_at HRK.out (by rw [HN.out]; omega)
        have hxj := ((bcell HWN.out.2.2.2.2.2.2).1 b _ hb).trans (hx j k HJ.out)
        obtain ⟨c1, f1, l1⟩ := HWN.out.1.rules
        obtain ⟨c2, f2, l2⟩ := HWN.out.2.1.rules
        obtain ⟨c3, f3, l3⟩ := HWN.out.2.2.1.rules
        have e1 := c1 4
        have e3 := c3 4
        simp at e1 e3
        have HOK := Lib.hid (HWN.out.2.2.2.1.alloc (.cells #[.string ⟨k.toArray⟩] 9)).drew
        have HRN := Lib.hid ((Rd.of_blk (Blk.new Wn 9 #[.string ⟨k.toArray⟩])).drewN 1)
        have HS3 := Lib.hid (show S3 lo w [.int .i64 6, .int .i64 0, .string ⟨#[]⟩, .slice A n ca, .slice (some ⟨b, o, none⟩) n cb] [.int .i64 6, .int .i64 0, .string ⟨#[]⟩, .slice AV t cV, .slice AK t cK] css (xs.take t) Wn from ⟨HWN.out.1, HWN.out.2.1, HWN.out.2.2.1, HWN.out.2.2.2.2.2.1, HWN.out.2.2.2.2.2.2⟩)
        have HOV := Lib.hid (HWN.out.2.2.2.2.1.alloc (.cells #[.string ⟨k.toArray⟩] 9)).drew
        have hbn : w.heap.size + 1 + 1 + 1 ≤ (Wn.alloc (.cells #[.string ⟨k.toArray⟩] 9)).drew.heap.size := by show _ ≤ (Wn.alloc _).heap.size; rw [World.size_alloc]; omega
        have HBN := Lib.hid hbn
        have HXJ := Lib.hid (hx j k HJ.out)
        clear hbn hx
        have hns : ks.take (t + 1) = ks.take t ++ [k] := by rw [List.take_add_one, HP.out.1]; rfl
        have hst : strV (ks.take (t + 1)) = strV (ks.take t) ++ [.string ⟨k.toArray⟩] := by rw [hns]; simp [strV]
        have HST := Lib.hid hst
        clear hns hst
        go_upto_region 9 with fail
        go_cut [] (fun wx => ∃ (AK2 : Option Addr) (cK2 : Nat), Hid (S3 lo w [.int .i64 6, .int .i64 0, .string ⟨#[]⟩, .slice A n ca, .slice (some ⟨b, o, none⟩) n cb] [.int .i64 6, .int .i64 0, .string ⟨#[]⟩, .slice AV t cV, .slice AK2 (t + 1) cK2] css (xs.take t) wx) ∧
          Hid (wx.ownsRow (w.heap.size + 1 + 1 + 1) 9 1 (.slice AK2 (t + 1) cK2) (t + 1) (strV (ks.take (t + 1)))) ∧ Hid (wx.ownsRow (w.heap.size + 1 + 1 + 1) 40 5 (.slice AV t cV) t css.flatten))
        case first =>
          go_wp2
          go_region_law
            ((refine wp_append_rd _ (.tmp 49) (.tmp 55) 32 rfl (w.heap.size + 1 + 1 + 1) 9 is _ 1 16 Tryd.underlying32 HIS.out hs0 hs1 hs2 rfl (by decide) (.slice AK t cK) t (strV (ks.take t)) (by simp [Act.eval, Act.put]) HOK.out (some ⟨Wn.heap.size, 0, none⟩) 1 1 (fun h => by cases h) [.string ⟨k.toArray⟩] (by simp [Act.eval, Act.put]) rfl HRN.out (fun u hu => by simp at hu; subst hu; rfl) (by unfold maxLen; omega) (by omega) HBN.out ?_; intro v6 w6 hown6 hgr6 hob6; obtain ⟨AK2, cK2, rfl, hcK2, hr6⟩ := Rd.of_own hown6; have hG6 := HS3.out.grow hgr6 (fun k e => (HOK.out.lt k e).1); have hOV6 := HOV.out.kept hgr6 (own_ne HOV.out HOK.out (by decide)); obtain ⟨c1', f1', l1'⟩ := hG6.1.rules; obtain ⟨c3', f3', l3'⟩ := hG6.2.2.1.rules; have e1' := c1' 4; have e3' := c3' 4; simp at e1' e3'; have x1' := ((bcell hG6.2.2.2.2).1 b _ hb).trans HXJ.out))
          all_goals
            go_wp2
            go_meet
            case rel =>
              refine ⟨AK2, cK2, Lib.hid (hG6.vset 4 _), Lib.hid ?_, Lib.hid ?_⟩
              · rw [HST.out]
                exact hown6.kept (gb_setCell (gb_refl w6 (some (w.heap.size + 1 + 1))) 4 _) (.inr (fun e => by have := (hown6.lt _ e).1; omega))
              · exact hOV6.kept (gb_setCell (gb_refl w6 (some (w.heap.size + 1 + 1))) 4 _) (.inr (fun e => by have := (hOV6.lt _ e).1; omega))
        case rest =>
          obtain ⟨AK2, cK2, HS4, HK4, HV4⟩ := hcut
          clear c1 f1 l1 c2 f2 l2 c3 f3 l3 e1 e3 HOK HRN HS3 HOV HBN HXJ hxj HWN HST
          obtain ⟨c1, f1, l1⟩ := HS4.out.1.rules
          obtain ⟨c3, f3, l3⟩ := HS4.out.2.2.1.rules
          have e1 := c1 3
          have e3 := c3 3
          simp at e1 e3
          obtain ⟨x, hkx, hxt⟩ := HP.out.2
          obtain ⟨c, hcj, hcx⟩ := HVS.out.get_ hkx
          obtain ⟨k0, n0, s0, A0, na0, ca0, B0, nb0, cb0, rfl⟩ := hcx.form
          have hfl : css0.flatten.length = n * 5 := by rw [HVS.out.flat, HNK.out]
          obtain ⟨bv, ov, rfl, hbv, hxv⟩ := HRV.out (by intro e; rw [e] at hfl; simp at hfl; omega)
          have hcell : ∀ (i : Nat) (u : Value), i < 5 → ([.int .i64 k0, .int .i64 n0, .string s0, .slice A0 na0 ca0, .slice B0 nb0 cb0] : List Value)[i]? = some u → w.cell? ⟨bv, ov + (j * 5 + i), none⟩ = some u := fun i u hi hu => by
            have h1 := flat5_get HVS.out.five hcj hi
            rw [hu] at h1
            obtain ⟨h2, h3⟩ := List.getElem?_eq_some_iff.1 h1
            rw [hxv _ h2, h3]
          have HCELL := Lib.hid hcell
          have HCX := Lib.hid hcx
          have HXT := Lib.hid hxt
          clear hcell hcx hxt hxv hfl hcj hkx HP HJ
          have z0 := ((bcell HS4.out.2.2.2.2).1 bv _ hbv).trans (HCELL.out 0 _ (by decide) rfl)
          have z1 := ((bcell HS4.out.2.2.2.2).1 bv _ hbv).trans (HCELL.out 1 _ (by decide) rfl)
          have z2 := ((bcell HS4.out.2.2.2.2).1 bv _ hbv).trans (HCELL.out 2 _ (by decide) rfl)
          have z3 := ((bcell HS4.out.2.2.2.2).1 bv _ hbv).trans (HCELL.out 3 _ (by decide) rfl)
          have z4 := ((bcell HS4.out.2.2.2.2).1 bv _ hbv).trans (HCELL.out 4 _ (by decide) rfl)
          rw [Nat.add_zero] at z0
          rw [← Nat.add_assoc] at z1 z2 z3 z4
          have HRN := Lib.hid ((Rd.of_blk (Blk.new wc 40 #[.int .i64 k0, .int .i64 n0, .string s0, .slice A0 na0 ca0, .slice B0 nb0 cb0])).drewN 1)
          have HOV := Lib.hid (HV4.out.alloc (.cells #[.int .i64 k0, .int .i64 n0, .string s0, .slice A0 na0 ca0, .slice B0 nb0 cb0] 40)).drew
          have HOK := Lib.hid (HK4.out.alloc (.cells #[.int .i64 k0, .int .i64 n0, .string s0, .slice A0 na0 ca0, .slice B0 nb0 cb0] 40)).drew
          have hbn : w.heap.size + 1 + 1 + 1 ≤ (wc.alloc (.cells #[.int .i64 k0, .int .i64 n0, .string s0, .slice A0 na0 ca0, .slice B0 nb0 cb0] 40)).drew.heap.size := by
            show _ ≤ (wc.alloc _).heap.size
            rw [World.size_alloc]; omega
          have HBN := Lib.hid hbn
          have HONE := Lib.hid HCX.out.one
          clear hbn
          go_wp2
          go_region_law
            ((refine wp_append_rd _ (.tmp 59) (.tmp 65) 38 rfl (w.heap.size + 1 + 1 + 1) 40 iv _ 5 80 Tryd.underlying38 HIV.out hv0 hv1 hv2 rfl (by decide) (.slice AV t cV) t css.flatten (by simp [Act.eval, Act.put]) HOV.out (some ⟨wc.heap.size, 0, none⟩) 1 1 (fun h => by cases h) [.int .i64 k0, .int .i64 n0, .string s0, .slice A0 na0 ca0, .slice B0 nb0 cb0] (by simp [Act.eval, Act.put]) rfl HRN.out HONE.out (by unfold maxLen; omega) (by omega) HBN.out ?_; intro v6 w6 hown6 hgr6 hob6; obtain ⟨AV2, cV2, rfl, hcV2, hr6⟩ := Rd.of_own hown6; have hG6 := HS4.out.grow hgr6 (fun k e => (HOV.out.lt k e).1); have hOK6 := HOK.out.kept hgr6 (own_ne HOK.out HOV.out (by decide)); obtain ⟨c1', f1', l1'⟩ := hG6.1.rules; obtain ⟨c3', f3', l3'⟩ := hG6.2.2.1.rules; have e1' := c1' 3; have e3' := c3' 3; simp at e1' e3'))
          all_goals
            go_wp2
            go_roundg (n - (t + 1))
            case measure => rw [HG.out]; omega
            case rel =>
              refine ⟨t + 1, AK2, AV2, cK2, cV2, css ++ [[.int .i64 k0, .int .i64 n0, .string s0, .slice A0 na0 ca0, .slice B0 nb0 cb0]], hlt, rfl, Lib.hid ?_⟩
              have hS := hG6.vset 3 (.slice AV2 (t + 1) cV2)
              have hfl : (css ++ [([.int .i64 k0, .int .i64 n0, .string s0, .slice A0 na0 ca0, .slice B0 nb0 cb0] : List Value)]).flatten = css.flatten ++ [.int .i64 k0, .int .i64 n0, .string s0, .slice A0 na0 ca0, .slice B0 nb0 cb0] := by simp
              have hxs' : xs.take (t + 1) = xs.take t ++ [x] := by rw [List.take_add_one, HXT.out]; rfl
              refine ⟨hS.1, hS.2.1, hS.2.2.1, ?_, ?_, ?_, hS.2.2.2.2⟩
              · exact hOK6.kept (gb_setCell (gb_refl w6 (some (w.heap.size + 1 + 1))) 3 _) (.inr (fun e => by have := (hOK6.lt _ e).1; omega))
              · rw [hfl]
                exact hown6.kept (gb_setCell (gb_refl w6 (some (w.heap.size + 1 + 1))) 3 _) (.inr (fun e => by have := (hown6.lt _ e).1; omega))
              · rw [hxs']
                exact hS.2.2.2.1.snoc (HCX.out.bel hS.2.2.2.2)
    · obtain rfl : t = n := by omega
      have k0 := c3 0
      have k1 := c3 1
      have k2 := c3 2
      have k3 := c3 3
      have k4 := c3 4
      simp at k0 k1 k2 k3 k4
      go_wp2
      refine bodyPost_ret (v := .agg #[.int .i64 6, .int .i64 0, .string ⟨#[]⟩, .slice AV t cV, .slice AK t cK]) (by simp only [results, Tryd.results83]; go_simp) rfl ?_
      have hw := HW.out
      have ek : ks.take t = ks := List.take_of_length_le (by rw [HKS.out]; exact Nat.le_refl _)
      have ex : xs.take t = xs := List.take_of_length_le (by rw [HXS.out]; exact Nat.le_refl _)
      obtain ⟨AK', cK', q1, q2, q3, q4⟩ := own_rdF (F := fun b => b ≠ w.heap.size + 1 ∧ lo ≤ b) hw.2.2.2.1 (fun b hb => by omega)
      obtain ⟨AV', cV', p1, p2, p3, p4⟩ := own_rdF (F := fun b => b ≠ w.heap.size + 1 ∧ lo ≤ b) hw.2.2.2.2.1 (fun b hb => by omega)
      injection q1 with q5 _ q6
      injection p1 with p5 _ p6
      subst q5; subst q6; subst p5; subst p6
      have hv := hw.2.2.2.2.2.1
      rw [ex] at hv
      rw [ek] at q4
      have hV : VR wo (fun b => b ≠ w.heap.size + 1 ∧ lo ≤ b) [.int .i64 6, .int .i64 0, .string ⟨#[]⟩, .slice AV t cV, .slice AK t cK] (.mk 6 0 [] xs ks) :=
        VR.into 6 0 [] (hv.mono fun b _ hb => by omega) (by rw [HXS.out]; exact p2) (by rw [HKS.out]; exact q2) p3 q3 p4 q4 HXS.out.symm HKS.out.symm
      refine ⟨_, rfl, (hV.keep (((((KeepF.refl.set (fun b hb => hb.1) 0 _).set (fun b hb => hb.1) 1 _).set (fun b hb => hb.1) 2 _).set (fun b hb => hb.1) 3 _).set (fun b hb => hb.1) 4 _)).mono fun b _ hb => hb.2, bel_put5a hw.2.2.2.2.2.2 (by omega) _ _ _ _ _⟩
end Go.Proofs.YtalhoacancbldaaDoor
