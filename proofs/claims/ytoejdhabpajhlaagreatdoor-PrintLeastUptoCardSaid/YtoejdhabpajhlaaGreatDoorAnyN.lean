/- strings.ContainsAny of the kit's shelf, laid here; and what it says of a text with none of three bytes. -/
import Derived.Test.YtoejdhabpajhlaaGreatDoorCanP
import Derived.Shelf.Strings.IndexAnyAll
import Derived.Shelf.SlGeneric
import Derived.Ground.NamesProg
import Derived.Scope
import Derived.Lib.OthersKept
namespace Go.Proofs
open Go.Shelf
shelf_lay_g Lays.n153 Nm 153 at Tryz 35 as Tryz.idxAny
shelf_lay_g Lays.n152 Nm 152 at Tryz 67 as Tryz.idxRune
shelf_lay_g Lays.n137 Nm 137 at Tryz 91 as Tryz.idxByte
theorem Tryz.set153 : (Tryz.prog.info? (Tryz.idxAny_ren.t 116)).map (fun i => (i.zero, i.size)) = some (some (.agg (Array.replicate 256 (.bool false))), 256) := by kernel_rfl
end Go.Proofs
namespace Go.Proofs.YtoejdhabpajhlaaGreatDoor
set_option linter.unusedVariables false
set_option linter.unusedSimpArgs false
open Go.RowKit Go.Shelf
attribute [local go_sem] run_index_arr run_part_agg run_part_one run_field_agg

def IntS (n : Int) (w : World) (e : Ending) (w' : World) : Prop := e = .returned (.int .i64 n) ∧ Below w.heap.size w w'
theorem iter_bel (w : World) (s : ByteArray) (p : Nat) : Below w.heap.size w (w.iter s p) := ((Below.refl _ w).alloc (Nat.le_refl _) _)
theorem ixb_no : ∀ {l : List UInt8} {c : UInt8}, (∀ x ∈ l, x ≠ c) → Lib.indexByte l c = -1
  | [], _, _ => rfl
  | x :: l, c, h => by
    have h1 := h x (by simp)
    have h2 := ixb_no (l := l) (c := c) (fun y hy => h y (by simp [hy]))
    unfold Lib.indexByte
    rw [if_neg (by simpa using h1), h2]; rfl
theorem cpBytes_last {c : Nat} (h : 128 ≤ c) (hle : c ≤ 1114111) : ∃ (k : Nat) (b : UInt8), (k = 1 ∨ k = 2 ∨ k = 3) ∧ (cpBytes c).length = k + 1 ∧ (cpBytes c)[k]? = some b ∧ 128 ≤ b.toNat := by
  have hb : 128 ≤ (UInt8.ofNat (128 + c % 64)).toNat := by rw [oN8 _ (by omega)]; omega
  unfold cpBytes
  rw [if_neg (by omega)]
  split
  · exact ⟨1, _, .inl rfl, rfl, rfl, hb⟩
  · split
    · exact ⟨2, _, .inr (.inl rfl), rfl, rfl, hb⟩
    · exact ⟨3, _, .inr (.inr rfl), rfl, rfl, hb⟩
set_option maxRecDepth 1000000 in
theorem vRune (c : Nat) (hc : c ≤ 2147483647) (w : World) : Calls Tryz.prog 92 #[.int .i32 c] w fun e w' => e = .returned (.bool (isCp (c : Int))) ∧ w' = w := by
  by_cases h1 : c < 55296
  · have hr : isCp (c : Int) = true := (isCp_iff c).2 (by omega)
    have h1' : (c : Int) < 55296 := by omega
    rw [hr]
    clear hr
    go_enter Tryz.func92, Tryz.ntmps92
    go_wp2
    go_ret
    exact ⟨rfl, rfl⟩
  · by_cases h2 : 57343 < c
    · by_cases h3 : c ≤ 1114111
      · have hr : isCp (c : Int) = true := (isCp_iff c).2 (by omega)
        have h1' : ¬ (c : Int) < 55296 := by omega
        have h2' : (57343 : Int) < c := by omega
        have h3' : (c : Int) ≤ 1114111 := by omega
        rw [hr]
        clear hr
        go_enter Tryz.func92, Tryz.ntmps92
        go_wp2
        go_ret
        exact ⟨rfl, rfl⟩
      · have hr : isCp (c : Int) = false := by rw [Bool.eq_false_iff]; intro h; have := (isCp_iff c).1 h; omega
        have h1' : ¬ (c : Int) < 55296 := by omega
        have h2' : (57343 : Int) < c := by omega
        have h3' : ¬ (c : Int) ≤ 1114111 := by omega
        rw [hr]
        clear hr
        go_enter Tryz.func92, Tryz.ntmps92
        go_wp2
        go_ret
        exact ⟨rfl, rfl⟩
    · have hr : isCp (c : Int) = false := by rw [Bool.eq_false_iff]; intro h; have := (isCp_iff c).1 h; omega
      have h1' : ¬ (c : Int) < 55296 := by omega
      have h2' : ¬ (57343 : Int) < c := by omega
      rw [hr]
      clear hr
      go_enter Tryz.func92, Tryz.ntmps92
      go_wp2
      go_ret
      exact ⟨rfl, rfl⟩

set_option maxRecDepth 1000000 in
set_option maxHeartbeats 4000000 in
theorem iRune_err (S : ByteArray) (hS : S.size = 3) (hA : ∀ (j : Nat) b, S.data.toList[j]? = some b → b.toNat < 128) (w : World) : Calls Tryz.prog 67 #[.string S, .int .i32 65533] w (IntS (-1) w) := by
  have HA := Lib.hid hA
  have HS := Lib.hid hS
  clear hA hS
  go_enter Tryz.func67, Tryz.ntmps67
  go_wp2
  go_loopg [5, 6] S.size (fun g _ _ wx => ∃ i : Nat, i + g = S.size ∧ wx = w.iter S i)
  case atStart => exact ⟨0, by omega, rfl⟩
  case round =>
    obtain ⟨i, hig, rfl⟩ := hrel
    cases gk with
    | zero =>
      obtain rfl : i = S.size := by omega
      have hnx := fun ty => run_next_end (P := Tryz.prog) w S S.size ty (Nat.lt_irrefl _)
      go_wp2
      go_ret
      exact ⟨rfl, iter_bel _ _ _⟩
    | succ g =>
      have hi : i < S.size := by omega
      obtain ⟨x, hx⟩ : ∃ x : UInt8, S[i]'hi = x := ⟨_, rfl⟩
      have hx128 : x.toNat < 128 := HA.out i x (by rw [← hx]; exact Lib.data_getElem? S i hi)
      have hnx := fun ty => run_next_ascii (P := Tryz.prog) w S i ty hi (by rw [hx]; exact hx128)
      rw [hx] at hnx
      have hne : ((x.toNat : Int) == 65533) = false := by simp; omega
      clear hx
      go_wp2
      go_roundg g
      case measure => omega
      case rel => exact ⟨i + 1, by omega, rfl⟩
theorem emp_mem {S : ByteArray} : ∀ x ∈ ByteArray.empty.data.toList, x ∈ S.data.toList := fun x hx => by cases hx
theorem ext_mem (S : ByteArray) (a b : Nat) : ∀ x ∈ (S.extract a b).data.toList, x ∈ S.data.toList := by
  intro x hx
  rw [ByteArray.data_extract, Array.toList_extract] at hx
  exact List.mem_of_mem_drop (List.mem_of_mem_take hx)
set_option maxRecDepth 1000000 in
set_option maxHeartbeats 16000000 in
theorem iRune_no (S : ByteArray) (hS : S.size = 3) (hA : ∀ (j : Nat) b, S.data.toList[j]? = some b → b.toNat < 128) (c : Nat) (h : 128 ≤ c) (hle : c ≤ 2147483647) (w : World) : Calls Tryz.prog 67 #[.string S, .int .i32 c] w (IntS (-1) w) := by
  by_cases h5 : c = 65533
  · subst h5; exact iRune_err S hS hA w
  have HVR := Lib.hid (vRune c hle w)
  have h0' : (0 : Int) ≤ c := by omega
  have h1' : ¬ (c : Int) < 128 := by omega
  have h5' : ((c : Int) == 65533) = false := by simp; omega
  cases hcp : isCp (c : Int) with
  | false =>
    rw [hcp] at HVR
    clear hcp h5 h hle hA
    go_enter Tryz.func67, Tryz.ntmps67
    go_wp2_with fail
    refine (HVR.out).mono ?_
    rintro e w2 ⟨rfl, rfl⟩
    go_wp2
    go_ret
    exact ⟨rfl, Below.refl _ _⟩
  | true =>
    rw [hcp] at HVR
    have hen := encode_cp hcp
    have hcl := (isCp_iff c).1 hcp
    obtain ⟨k, b, hk, hlen, hat, hb⟩ := cpBytes_last h hcl.1
    obtain ⟨T, hT⟩ : ∃ T, Utf8.encode (c : Int) = T := ⟨_, rfl⟩
    have hTl : T.data.toList = cpBytes c := by rw [← hT, hen]
    have hTs : T.size = k + 1 := by rw [← hlen, ← hTl]; exact Lib.size_eq T
    have hTk : ∀ hk : k < T.size, T[k]'hk = b := fun hk' => by
      have h1 := Lib.data_getElem? T k hk'
      rw [hTl, hat] at h1
      exact (Option.some.inj h1).symm
    have HNO := Lib.hid (fun (U : ByteArray) (hU : ∀ x ∈ U.data.toList, x ∈ S.data.toList) => ixb_no (l := U.data.toList) (c := b) (fun x hx e => by
      obtain ⟨j, hj⟩ := List.getElem?_of_mem (hU x hx)
      have := hA j x hj
      rw [e] at this; omega))
    have HNE := Lib.hid (fun (j : Nat) (hj : j < S.size) => show ((((S[j]'hj).toNat : Nat) : Int) != (b.toNat : Int)) = true by
      have := hA j _ (Lib.data_getElem? S j hj)
      simp; omega)
    have hbk : ((b.toNat : Int)).toNat.toUInt8 = b := by simp
    clear hcp hen hcl hlen hat hTl h5 h hle hA
    rcases hk with rfl | rfl | rfl
    · have hb1 := hTk (by omega)
      clear hTk
      have hne := HNE.out 1 (by omega)
      have HI := Lib.hid (fun (U : ByteArray) (hU : ∀ x ∈ U.data.toList, x ∈ S.data.toList) W => show Calls Tryz.prog 91 #[.string U, .int .u8 (b.toNat : Int)] W (fun e w' => e = .returned (.int .i64 (-1)) ∧ w' = W) by
        have h := Any.strings_IndexByte Tryz.idxByte U (b.toNat : Int) W
        rw [hbk, HNO.out U hU] at h
        exact h)
      go_enter Tryz.func67, Tryz.ntmps67
      go_wp2_with fail
      refine (HVR.out).mono ?_
      rintro e w2 ⟨rfl, rfl⟩
      go_wp2
      refine wp_scope_straight ?_
      go_wp2
      go_loopg [9] 0 (fun gk s9 wr => gk = 0 ∧ s9 = .int .i64 1 ∧ wr = w2)
      case atStart => exact ⟨rfl, rfl, rfl⟩
      case round =>
        obtain ⟨rfl, rfl, rfl⟩ := hrel
        go_wp2
        refine wp_scope_straight ?_
        go_wp2
        go_region
        all_goals
          go_wp2
          go_region_with (go_at_call 91; with_reducible refine (HI.out (S.extract 2 3) (ext_mem S 2 3) _).mono ?_; rintro e w5 ⟨rfl, rfl⟩)
          all_goals
            go_wp2
            go_ret
            exact ⟨rfl, (Below.refl _ _).drew.drew⟩
    · have hb2 := hTk (by omega)
      clear hTk
      have hne := HNE.out 2 (by omega)
      have HI := Lib.hid (fun (U : ByteArray) (hU : ∀ x ∈ U.data.toList, x ∈ S.data.toList) W => show Calls Tryz.prog 91 #[.string U, .int .u8 (b.toNat : Int)] W (fun e w' => e = .returned (.int .i64 (-1)) ∧ w' = W) by
        have h := Any.strings_IndexByte Tryz.idxByte U (b.toNat : Int) W
        rw [hbk, HNO.out U hU] at h
        exact h)
      go_enter Tryz.func67, Tryz.ntmps67
      go_wp2_with fail
      refine (HVR.out).mono ?_
      rintro e w2 ⟨rfl, rfl⟩
      go_wp2
      refine wp_scope_straight ?_
      go_wp2
      go_loopg [9] 0 (fun gk s9 wr => gk = 0 ∧ s9 = .int .i64 2 ∧ wr = w2)
      case atStart => exact ⟨rfl, rfl, rfl⟩
      case round =>
        obtain ⟨rfl, rfl, rfl⟩ := hrel
        go_wp2
        refine wp_scope_straight ?_
        go_wp2
        go_region
        all_goals
          go_wp2
          go_region_with (go_at_call 91; with_reducible refine (HI.out ByteArray.empty emp_mem _).mono ?_; rintro e w5 ⟨rfl, rfl⟩)
          all_goals
            go_wp2
            go_ret
            exact ⟨rfl, (Below.refl _ _).drew.drew⟩
    · have hb3 := hTk (by omega)
      clear hTk
      go_enter Tryz.func67, Tryz.ntmps67
      go_wp2_with fail
      refine (HVR.out).mono ?_
      rintro e w2 ⟨rfl, rfl⟩
      go_wp2
      refine wp_scope_straight ?_
      go_wp2
      go_loopg [9] 0 (fun gk s9 wr => gk = 0 ∧ s9 = .int .i64 3 ∧ wr = w2)
      case atStart => exact ⟨rfl, rfl, rfl⟩
      case round =>
        obtain ⟨rfl, rfl, rfl⟩ := hrel
        go_wp2
        go_ret
        exact ⟨rfl, Below.refl _ _⟩
def nrt : ByteArray := ⟨#[10, 13, 9]⟩
theorem nrt_size : nrt.size = 3 := rfl
theorem nrt_ascii : ∀ (j : Nat) b, nrt.data.toList[j]? = some b → b.toNat < 128 := by
  intro j b h
  have h := List.mem_of_getElem? h
  simp [nrt] at h
  rcases h with rfl | rfl | rfl <;> decide
/-- the three letters are not in a row -/
def noNrt (l : List UInt8) : Prop := ∀ x ∈ l, x ≠ 10 ∧ x ≠ 13 ∧ x ≠ 9
theorem nrt_ixb {c : UInt8} (h : c ≠ 10 ∧ c ≠ 13 ∧ c ≠ 9) : Lib.indexByte nrt.data.toList c = -1 := ixb_no (by
  intro x hx
  simp [nrt] at hx
  rcases hx with rfl | rfl | rfl
  · exact fun e => h.1 e.symm
  · exact fun e => h.2.1 e.symm
  · exact fun e => h.2.2 e.symm)
theorem nrt_contains {c : UInt8} (h : c ≠ 10 ∧ c ≠ 13 ∧ c ≠ 9) : nrt.data.toList.contains c = false := by
  rw [Lib.contains_iff_indexByte, nrt_ixb h]; rfl
set_option maxRecDepth 1000000 in
set_option maxHeartbeats 4000000 in
theorem iAny_short (s : ByteArray) (h8 : s.size ≤ 8) (hno : noNrt s.data.toList) (w : World) : Calls Tryz.prog 35 #[.string s, .string nrt] w (IntS (-1) w) := by
  have HNO := Lib.hid hno
  have HR := Lib.hid (fun c h hle W => iRune_no nrt nrt_size nrt_ascii c h hle W)
  have HRA := Lib.hid (fun (c : UInt8) (h : c ≠ 10 ∧ c ≠ 13 ∧ c ≠ 9) (h1 : c.toNat < 128) W => show Calls Tryz.prog 67 #[.string nrt, .int .i32 (c.toNat : Int)] W (IntS (-1) W) by
    have h2 := Any.strings_IndexRune_ascii Tryz.idxRune nrt (c.toNat : Int) W (by omega) (by omega)
    rw [show ((c.toNat : Int)).toNat.toUInt8 = c by simp, nrt_ixb h] at h2
    refine h2.mono ?_
    rintro e w' ⟨rfl, rfl⟩
    exact ⟨rfl, Below.refl _ _⟩)
  obtain ⟨N, hN⟩ : ∃ N, nrt = N := ⟨_, rfl⟩
  have hN3 : N.size = 3 := by rw [← hN]; rfl
  have hNe : N.toList.isEmpty = false := by rw [← hN, Lib.toList_data]; rfl
  rw [hN] at HR HRA ⊢
  have h8' : ¬ (8 : Int) < (s.size : Int) := by omega
  clear hno hN
  go_enter Tryz.func35, Tryz.ntmps35
  go_wp2
  go_loopg [9, 10] s.size (fun g _ _ wx => ∃ (i : Nat) (wi : World), (g = s.size - i) ∧ wx = wi ∧ Below w.heap.size w wi ∧ wi.heap[w.heap.size]? = some (.stringIter s i) ∧ w.heap.size < wi.heap.size)
  case atStart => exact ⟨0, _, rfl, rfl, iter_bel _ _ _, World.iter_heap .., (Array.getElem?_eq_some_iff.1 (World.iter_heap ..)).1⟩
  case round =>
    obtain ⟨i, wi, hgk, rfl, hbi, hit, hlt⟩ := hrel
    have HB := Lib.hid hbi
    have HIT := Lib.hid hit
    have HG := Lib.hid hgk
    clear hbi hgk
    by_cases hi : i < s.size
    · by_cases hx : (s[i]'hi).toNat < 128
      · have hnx := fun ty => Lib.run_next_ascii_at (P := Tryz.prog) wr w.heap.size s i ty hit hi hx
        have hno := HNO.out _ (List.mem_of_getElem? (Lib.data_getElem? s i hi))
        obtain ⟨x, hxe⟩ : ∃ x : UInt8, s[i]'hi = x := ⟨_, rfl⟩
        rw [hxe] at hnx hno hx
        have HC := Lib.hid (fun W => HRA.out x hno hx W)
        have HIN := Lib.hid (Lib.iterAt_heap wr w.heap.size s i (i + 1) hit)
        have HSZ := Lib.hid (Lib.iterAt_size wr w.heap.size s (i + 1))
        have HB2 := Lib.hid (Lib.below_iterAt HB.out (Nat.le_refl _) s (i + 1))
        clear hno hx hxe hit
        go_wp2_with fail
        refine (HC.out _).mono ?_
        rintro e w5 ⟨rfl, hb5⟩
        have HB5 := Lib.hid hb5
        clear hb5
        go_wp2
        go_roundg (s.size - (i + 1))
        case measure => rw [HG.out]; omega
        case rel => exact ⟨i + 1, _, rfl, rfl, HB2.out.trans (HB5.out.mono HB2.out.size), (HB5.out.5 w.heap.size (by rw [HSZ.out]; exact hlt)).trans HIN.out, Nat.lt_of_lt_of_le (by rw [HSZ.out]; exact hlt) HB5.out.size⟩
      · have hnx := fun ty => Lib.run_next_any_at (P := Tryz.prog) wr w.heap.size s i ty hit hi
        obtain ⟨hd1, hd2⟩ := decode_high s i hi (by omega)
        have hd3 := decode_le s i
        obtain ⟨d, hd⟩ : ∃ d, (Utf8.decode s i).1 = d := ⟨_, rfl⟩
        obtain ⟨k, hk⟩ : ∃ k, (Utf8.decode s i).2 = k := ⟨_, rfl⟩
        rw [hk] at hd2
        rw [hd] at hd1 hd3
        have hnx2 := fun ty => hnx ty
        simp only [hd, hk] at hnx2
        have HC := Lib.hid (fun W => HR.out d hd1 hd3 W)
        have HIN := Lib.hid (Lib.iterAt_heap wr w.heap.size s i (i + k) hit)
        have HSZ := Lib.hid (Lib.iterAt_size wr w.heap.size s (i + k))
        have HB2 := Lib.hid (Lib.below_iterAt HB.out (Nat.le_refl _) s (i + k))
        clear hnx hd hk hit hx hd1 hd3
        go_wp2_with fail
        refine (HC.out _).mono ?_
        rintro e w5 ⟨rfl, hb5⟩
        have HB5 := Lib.hid hb5
        clear hb5
        go_wp2
        go_roundg (s.size - (i + k))
        case measure => rw [HG.out]; omega
        case rel => exact ⟨i + k, _, rfl, rfl, HB2.out.trans (HB5.out.mono HB2.out.size), (HB5.out.5 w.heap.size (by rw [HSZ.out]; exact hlt)).trans HIN.out, Nat.lt_of_lt_of_le (by rw [HSZ.out]; exact hlt) HB5.out.size⟩
    · have hnx := fun ty => Lib.run_next_end_at (P := Tryz.prog) wr w.heap.size s i ty hit hi
      go_wp2
      go_ret
      exact ⟨rfl, HB.out⟩
/-- strings.IndexAny finds none of the three letters -/
theorem iAny_no (s : ByteArray) (hs : s.size < 4294967281) (hno : noNrt s.data.toList) (w : World) : Calls Tryz.prog 35 #[.string s, .string nrt] w (IntS (-1) w) := by
  by_cases h8 : s.size ≤ 8
  · exact iAny_short s h8 hno w
  · have hvi := zero_of_info Tryz.set153
    refine (Any.strings_IndexAny_long Tryz.idxAny hvi.1 hvi.2 s nrt w (by decide) (by omega) hs (by decide) nrt_ascii).mono ?_
    rintro e w' ⟨rfl, rfl⟩
    have hi : Lib.indexAny s.data.toList nrt.data.toList = -1 := Lib.indexAny_none (fun j b _ hb => nrt_contains (hno b (List.mem_of_getElem? hb)))
    rw [hi]
    exact ⟨rfl, ((Below.refl _ w).alloc (Nat.le_refl _) _).alloc (by rw [World.size_alloc]; omega) _⟩
set_option maxRecDepth 100000 in
theorem cAny_no (s : ByteArray) (hs : s.size < 4294967281) (hno : noNrt s.data.toList) (w : World) : Calls Tryz.prog 18 #[.string s, .string nrt] w (fun e w' => e = .returned (.bool false) ∧ Below w.heap.size w w') := by
  have HI := Lib.hid (iAny_no s hs hno w)
  obtain ⟨N, hN⟩ : ∃ N, nrt = N := ⟨_, rfl⟩
  rw [hN] at HI ⊢
  clear hN hno hs
  go_enter Tryz.func18, Tryz.ntmps18
  go_wp2_with fail
  refine HI.out.mono ?_
  rintro e w2 ⟨rfl, h2⟩
  go_wp2
  go_ret
  exact ⟨rfl, h2⟩
end Go.Proofs.YtoejdhabpajhlaaGreatDoor
