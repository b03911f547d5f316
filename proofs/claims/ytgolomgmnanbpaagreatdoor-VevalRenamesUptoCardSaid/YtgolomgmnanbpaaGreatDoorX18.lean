import Derived.Test.YtgolomgmnanbpaaGreatDoorX03
import Derived.Test.YtgolomgmnanbpaaGreatDoorX04
import Derived.Test.YtgolomgmnanbpaaGreatDoorX11
import Derived.Test.YtgolomgmnanbpaaGreatDoorX01
namespace Go.Proofs.YtgolomgmnanbpaaGreatDoor
set_option linter.unusedVariables false
set_option linter.unusedSimpArgs false
theorem bulk_arith0 {D C a b p q z : Nat} (h1 : a + D ≤ C * p) (h2 : b + D * z ≤ C * q) : a + b + D * (z + 1) ≤ C * (p + q) := by
  have h := Nat.add_le_add h1 h2
  have e : C * (p + q) = C * p + C * q := Nat.mul_add _ _ _
  have e2 : D * (z + 1) = D * z + D := Nat.mul_succ _ _
  omega
theorem bulk_arith {a b p q z : Nat} (h1 : a + 4194305 ≤ 8388610 * p) (h2 : b + 4194305 * z ≤ 8388610 * q) : a + b + 4194305 * (z + 1) ≤ 8388610 * (p + q) := bulk_arith0 h1 h2
theorem bulkK_keys : ∀ (ks : List (List UInt8)), (∀ t ∈ ks, t.length ≤ 4194304) → bulkK ks ≤ 4194305 * ks.length
  | [], _ => by simp [bulkK]
  | k :: r, h => by
    have h1 := h k List.mem_cons_self
    have h2 := bulkK_keys r (fun t ht => h t (List.mem_cons_of_mem _ ht))
    have e1 : bulkK (k :: r) = k.length + 1 + bulkK r := by rw [bulkK]
    have e3 : (k :: r).length = r.length + 1 := rfl
    omega
mutual
theorem bulk_nodes : ∀ (v : JV) (d : Nat), goodJ d v = true → lenJ v → bulkJ v + 4194305 ≤ 8388610 * nodesJ v
  | .mk k n s kids keys, d, hg, hl => by
    obtain ⟨h1, _, h3⟩ := goodJ_out hg
    obtain ⟨hk1, hk2⟩ := keyed h1
    unfold lenJ at hl
    have hb := bulkK_keys keys hl.2.2.2.1
    have hL := bulkL_nodes kids (d - 1) h3 hl.2.2.2.2
    have hle : keys.length ≤ kids.length := by
      by_cases h6 : k = 6
      · rw [hk1 h6]; exact Nat.le_refl _
      · rw [hk2 h6]; exact Nat.zero_le _
    have : 4194305 * keys.length ≤ 4194305 * kids.length := Nat.mul_le_mul_left _ hle
    unfold bulkJ nodesJ
    omega
theorem bulkL_nodes : ∀ (xs : List JV) (d : Nat), goodL d xs = true → lenL xs → bulkL xs + 4194305 * xs.length ≤ 8388610 * nodesL xs
  | [], d, _, _ => by simp [bulkL, nodesL]
  | x :: r, d, hg, hl => by
    unfold goodL at hg
    rw [Bool.and_eq_true] at hg
    unfold lenL at hl
    have h1 := bulk_nodes x d hg.1 hl.1
    have h2 := bulkL_nodes r d hg.2 hl.2
    have e1 : bulkL (x :: r) = bulkJ x + bulkL r := by rw [bulkL]
    have e2 : nodesL (x :: r) = nodesJ x + nodesL r := by rw [nodesL]
    rw [List.length_cons]
    simp only [e1, e2]
    exact bulk_arith h1 h2
end
end Go.Proofs.YtgolomgmnanbpaaGreatDoor
namespace Go.Proofs.YtgolomgmnanbpaaGreatDoor
set_option linter.unusedVariables false
set_option linter.unusedSimpArgs false
open Go.RowKit
attribute [local go_sem] run_index_arr run_part_agg run_part_one run_field_agg
theorem index_strK {s : List UInt8} {i : Nat} {a : UInt8} (ha : s[i]? = some a) (W : World) : (Instr.index 9 (.string ⟨s.toArray⟩) (.int .i64 (i : Int))).run Tryz.prog W = .ok (.int .u8 a.toNat) W := by
  obtain ⟨hi, e⟩ := List.getElem?_eq_some_iff.1 ha
  have hsz : (ByteArray.mk s.toArray).size = s.length := by simp [ByteArray.size]
  rw [run_index_string W 9 ⟨s.toArray⟩ .i64 (i : Int) Tryz.underlying9, dif_pos ⟨by omega, by rw [hsz]; omega⟩]
  subst e
  rfl
theorem infoByteK : (Tryz.prog.info? 5).map (fun i => (i.zero, i.size, i.bytes)) = some (some (.int .u8 0), 1, 1) := by kernel_rfl
def OwnB (base : Nat) (row : Value) (n : Nat) (l : List UInt8) (w : World) : Prop := l.length = n ∧ w.ownsRow base 5 1 row n (byteV l) ∧ base ≤ w.heap.size
theorem OwnB.nil (w : World) : OwnB w.heap.size (.slice none 0 0) 0 [] w := ⟨rfl, World.ownsRow_nil _ _ _ _, Nat.le_refl _⟩
theorem OwnB.bel {base n : Nat} {row : Value} {l : List UInt8} {w w' : World} (h : OwnB base row n l w) (hb : Below w.heap.size w w') : OwnB base row n l w' := ⟨h.1, ownBel h.2.1 hb, Nat.le_trans h.2.2 hb.size⟩
def Gr (row : Value) (w : World) (row' : Value) (w' : World) : Prop := w.grownBy w' row.ownBlock ∧ (row'.ownBlock = row.ownBlock ∨ ∃ k, row'.ownBlock = some k ∧ w.heap.size ≤ k)
theorem Gr.refl (row : Value) (w : World) : Gr row w row w := ⟨World.grownBy.refl w _, .inl rfl⟩
theorem Gr.trans {a b c : Value} {w w1 w2 : World} (h : Gr a w b w1) (k : Gr b w1 c w2) : Gr a w c w2 := by
  obtain ⟨h1, h2⟩ := h
  obtain ⟨k1, k2⟩ := k
  refine ⟨⟨k1.os.trans h1.os, k1.tape.trans h1.tape, k1.output.trans h1.output, Nat.le_trans h1.size k1.size, fun i hi hne => (k1.block i (Nat.lt_of_lt_of_le hi h1.size) ?_).trans (h1.block i hi hne)⟩, ?_⟩
  · rcases h2 with h2 | ⟨q, h2, h3⟩
    · rw [h2]; exact hne
    · rw [h2]; intro e; injection e with e; omega
  · rcases k2 with k2 | ⟨q, k2, k3⟩
    · rcases h2 with h2 | ⟨q', h2, h3⟩
      · exact .inl (k2.trans h2)
      · exact .inr ⟨q', k2.trans h2, h3⟩
    · exact .inr ⟨q, k2, Nat.le_trans h1.size k3⟩
theorem Gr.bel {row : Value} {w w' : World} (h : Below w.heap.size w w') : Gr row w row w' := ⟨gbBel h _, .inl rfl⟩
theorem Gr.size {a b : Value} {w w' : World} (h : Gr a w b w') : w.heap.size ≤ w'.heap.size := h.1.size
theorem Gr.keepF {a b : Value} {w w' : World} {F : Nat → Prop} (h : Gr a w b w') (hF : ∀ k, F k → some k ≠ a.ownBlock) : KeepF F w w' := ⟨h.1.size, fun k hf hk => h.1.block k hk (hF k hf)⟩
theorem Gr.blk {a b : Value} {w w' : World} {g : Nat} {t : TypeId} {cs : Array Value} (h : Gr a w b w') (hb : Blk w g t cs) (hg : some g ≠ a.ownBlock) : Blk w' g t cs := (h.1.block g hb.lt hg).trans hb
theorem Gr.below {a b : Value} {w w' : World} {base : Nat} (h : Gr a w b w') (hb : base ≤ w.heap.size) (ho : ∀ k, a.ownBlock = some k → base ≤ k) : Below base w w' := (Below.refl base w).grown h.1 hb ho
theorem OwnB.post {base n M : Nat} {row row2 : Value} {l m : List UInt8} {w w6 : World} {o : Obj} (h : OwnB base row n l w) (hown : w6.ownsRow base 5 1 row2 (n + M) (byteV l ++ byteV m)) (hM : m.length = M) (hgr : (w.alloc o).grownBy w6 row.ownBlock) (hob : row2.ownBlock = row.ownBlock ∨ row2.ownBlock = some (w.alloc o).heap.size) : OwnB base row2 (n + M) (l ++ m) w6 ∧ Gr row w row2 w6 := by
  have hg : Gr row w row2 w6 := (Gr.bel ((Below.refl _ w).alloc (Nat.le_refl _) o)).trans ⟨hgr, hob.imp id fun e => ⟨_, e, Nat.le_refl _⟩⟩
  exact ⟨⟨by rw [List.length_append, h.1, hM], by rw [byteV_app]; exact hown, Nat.le_trans h.2.2 hg.size⟩, hg⟩
def LayP (base : Nat) (m : List UInt8) (row : Value) (w : World) (e : Ending) (w' : World) : Prop := ∃ row' n', e = .returned row' ∧ OwnB base row' n' m w' ∧ Gr row w row' w'
def encT (s : List UInt8) : List UInt8 := s.flatMap fun c => if c = 0 then [0, 255] else [c]
theorem encT_len (s : List UInt8) : (encT s).length ≤ 2 * s.length := by
  induction s with
  | nil => simp [encT]
  | cons c r ih =>
    unfold encT at ih ⊢
    rw [List.flatMap_cons, List.length_append, List.length_cons]
    split
    · show 2 + _ ≤ _; omega
    · show 1 + _ ≤ _; omega
theorem codeT_enc (s : List UInt8) : codeT s = 5 :: (encT s ++ [0, 0]) := rfl
set_option maxRecDepth 100000 in
set_option maxHeartbeats 4000000 in
theorem kLayText (row : Value) (base n : Nat) (l s : List UInt8) (w : World) (h : OwnB base row n l w) (hn : n ≤ 100000000000) (hs : s.length ≤ 4194304) :
    Calls Tryz.prog 102 #[row, .string ⟨s.toArray⟩] w (LayP base (l ++ codeT s) row w) := by
  obtain ⟨i0, hi, hz0, hz1, hz2⟩ := info_parts infoByteK
  have HI := Lib.hid hi
  have HO := Lib.hid h
  obtain ⟨ns, hns⟩ : ∃ q, s.length = q := ⟨_, rfl⟩
  have hsz : (ByteArray.mk s.toArray).size = ns := by rw [← hns]; simp [ByteArray.size]
  have HIX := Lib.hid (fun (i : Nat) (a : UInt8) (ha : s[i]? = some a) W => index_strK ha W)
  have HN := Lib.hid hns
  obtain ⟨S, hS⟩ : ∃ S : ByteArray, ⟨s.toArray⟩ = S := ⟨_, rfl⟩
  rw [hS] at HIX hsz ⊢
  rw [hns] at hs
  have HFIN := Lib.hid (fun (r : Value) (m : Nat) (w' : World) (ho : OwnB base r m (l ++ 5 :: (encT s ++ [0, 0])) w') (hb : Gr row w r w') => show LayP base (l ++ codeT s) row w (.returned r) w' from ⟨r, m, rfl, ho, hb⟩)
  clear hi h hns hS
  go_enter Tryz.func102, Tryz.ntmps102
  have HA2 := Lib.hid (HO.out.2.1.alloc (.cells #[.int .u8 5] 5))
  have HR2 := Lib.hid (Rd.of_blk (Blk.new w 5 #[.int .u8 5]))
  have HB2 := Lib.hid (show base ≤ (w.alloc (.cells #[.int .u8 5] 5)).heap.size by have := HO.out.2.2; simp; omega)
  go_wp2_with (at_builtin; refine wpList_append_rd _ rfl _ _ 76 rfl base 5 i0 _ 1 1 Tryz.underlying76 HI.out hz0 hz1 hz2 rfl (by decide) row n (byteV l) rfl HA2.out (some ⟨w.heap.size, 0, none⟩) 1 1 (fun h => by cases h) [.int .u8 5] rfl rfl HR2.out (byteV_one [5]) (by unfold maxLen; omega) (by omega) HB2.out ?_; intro row2 w2 hown2 hgr2 hob2)
  have H2P := Lib.hid (HO.out.post (m := [5]) (M := 1) hown2 rfl hgr2 hob2)
  clear hown2 hgr2 hob2
  go_loopg [0, 11] ns (fun gk s0 s11 wr => ∃ (i m : Nat) (r : Value), r = s0 ∧ i ≤ ns ∧ m ≤ n + 1 + 2 * i ∧ gk = ns - i ∧ s11 = .int .i64 (i : Int) ∧ Hid (OwnB base r m (l ++ 5 :: encT (s.take i)) wr) ∧ Hid (Gr row w r wr))
  case atStart => exact ⟨0, n + 1, _, rfl, Nat.zero_le _, by omega, by go_num, rfl, Lib.hid H2P.out.1, Lib.hid H2P.out.2⟩
  case round =>
    obtain ⟨i, m, r, rfl, hin, hm, hgk, rfl, HOW, HBW⟩ := hrel
    have HG := Lib.hid hgk
    clear hgk H2P HA2 HR2 HB2 HO
    by_cases hlt : i < ns
    · obtain ⟨c, hc⟩ : ∃ c, s[i]? = some c := ⟨_, List.getElem?_eq_getElem (by rw [HN.out]; exact hlt)⟩
      have hix := fun W => HIX.out i c hc W
      have HTK := Lib.hid (show encT (s.take (i + 1)) = encT (s.take i) ++ (if c = 0 then [0, 255] else [c]) by rw [List.take_add_one, hc]; unfold encT; simp)
      obtain ⟨cn, hcn⟩ : ∃ q, c.toNat = q := ⟨_, rfl⟩
      have HCN := Lib.hid hcn
      rw [hcn] at hix
      clear hc hcn
      have HA3 := Lib.hid (HOW.out.2.1.alloc (.cells #[.int .u8 (cn : Int)] 5))
      have HR3 := Lib.hid (Rd.of_blk (Blk.new wr 5 #[.int .u8 (cn : Int)]))
      have HB3 := Lib.hid (show base ≤ (wr.alloc (.cells #[.int .u8 (cn : Int)] 5)).heap.size by have := HOW.out.2.2; simp; omega)
      by_cases h0 : cn = 0
      · have hc0 : c = 0 := by rw [← UInt8.toNat_inj, HCN.out, h0]; rfl
        subst h0
        go_upto_region 6 with (at_builtin; refine wpList_append_rd _ rfl _ _ 76 rfl base 5 i0 _ 1 1 Tryz.underlying76 HI.out hz0 hz1 hz2 rfl (by decide) r m (byteV (l ++ 5 :: encT (s.take i))) rfl HA3.out (some ⟨wr.heap.size, 0, none⟩) 1 1 (fun h => by cases h) [.int .u8 ((0 : Nat) : Int)] rfl rfl HR3.out (byteV_one [0]) (by unfold maxLen; omega) (by omega) HB3.out ?_; intro row3 w3 hown3 hgr3 hob3)
        have H3P := Lib.hid (HOW.out.post (m := [0]) (M := 1) hown3 rfl hgr3 hob3)
        clear hown3 hgr3 hob3 HA3 HR3 HB3
        have HO3 := Lib.hid H3P.out.1
        have HA4 := Lib.hid (HO3.out.2.1.alloc (.cells #[.int .u8 255] 5))
        have HR4 := Lib.hid (Rd.of_blk (Blk.new w3 5 #[.int .u8 255]))
        have HB4 := Lib.hid (show base ≤ (w3.alloc (.cells #[.int .u8 255] 5)).heap.size by have := HO3.out.2.2; simp; omega)
        go_wp2_with (at_builtin; refine wpList_append_rd _ rfl _ _ 76 rfl base 5 i0 _ 1 1 Tryz.underlying76 HI.out hz0 hz1 hz2 rfl (by decide) row3 (m + 1) (byteV (l ++ 5 :: encT (s.take i) ++ [0])) rfl HA4.out (some ⟨w3.heap.size, 0, none⟩) 1 1 (fun h => by cases h) [.int .u8 255] rfl rfl HR4.out (byteV_one [255]) (by unfold maxLen; omega) (by omega) HB4.out ?_; intro row4 w4 hown4 hgr4 hob4)
        have H4P := Lib.hid (HO3.out.post (m := [255]) (M := 1) hown4 rfl hgr4 hob4)
        clear hown4 hgr4 hob4
        have HL := Lib.hid (show l ++ 5 :: encT (s.take i) ++ [0] ++ [255] = l ++ 5 :: encT (s.take (i + 1)) by rw [HTK.out, if_pos hc0]; simp)
        go_roundg (ns - (i + 1))
        case measure => rw [HG.out]; omega
        case rel => exact ⟨i + 1, m + 1 + 1, _, rfl, by omega, by omega, rfl, by go_num, Lib.hid (by rw [← HL.out]; exact H4P.out.1), Lib.hid ((HBW.out.trans H3P.out.2).trans H4P.out.2)⟩
      · have hc0 : ¬ c = 0 := fun e => h0 (by rw [← HCN.out, e]; rfl)
        have h0b : ((cn : Int) == 0) = false := by rw [beq_eq_false_iff_ne]; omega
        have hcc : byteV [c] = [.int .u8 (cn : Int)] := by show [Value.int .u8 ((c.toNat : Nat) : Int)] = _; rw [HCN.out]
        have HCC := Lib.hid hcc
        clear hcc
        go_upto_region 6 with (at_builtin; refine wpList_append_rd _ rfl _ _ 76 rfl base 5 i0 _ 1 1 Tryz.underlying76 HI.out hz0 hz1 hz2 rfl (by decide) r m (byteV (l ++ 5 :: encT (s.take i))) rfl HA3.out (some ⟨wr.heap.size, 0, none⟩) 1 1 (fun h => by cases h) [.int .u8 (cn : Int)] rfl rfl HR3.out (by rw [← HCC.out]; exact byteV_one [c]) (by unfold maxLen; omega) (by omega) HB3.out ?_; intro row3 w3 hown3 hgr3 hob3)
        have H3P := Lib.hid (HOW.out.post (m := [c]) (M := 1) (by rw [HCC.out]; exact hown3) rfl hgr3 hob3)
        clear hown3 hgr3 hob3 HA3 HR3 HB3
        have HL := Lib.hid (show l ++ 5 :: encT (s.take i) ++ [c] = l ++ 5 :: encT (s.take (i + 1)) by rw [HTK.out, if_neg hc0]; simp)
        go_wp2
        go_roundg (ns - (i + 1))
        case measure => rw [HG.out]; omega
        case rel => exact ⟨i + 1, m + 1, _, rfl, by omega, by omega, rfl, by go_num, Lib.hid (by rw [← HL.out]; exact H3P.out.1), Lib.hid (HBW.out.trans H3P.out.2)⟩
    · obtain rfl : i = ns := by omega
      have hl : l ++ 5 :: encT (s.take i) = l ++ 5 :: encT s := by rw [List.take_of_length_le (Nat.le_of_eq HN.out)]
      rw [hl] at HOW
      clear hl
      have HA5 := Lib.hid (HOW.out.2.1.alloc (.cells #[.int .u8 0, .int .u8 0] 5))
      have HR5 := Lib.hid (Rd.of_blk (Blk.new wr 5 #[.int .u8 0, .int .u8 0]))
      have HB5 := Lib.hid (show base ≤ (wr.alloc (.cells #[.int .u8 0, .int .u8 0] 5)).heap.size by have := HOW.out.2.2; simp; omega)
      go_wp2_with (at_builtin; refine wpList_append_rd _ rfl _ _ 76 rfl base 5 i0 _ 1 1 Tryz.underlying76 HI.out hz0 hz1 hz2 rfl (by decide) r m (byteV (l ++ 5 :: encT s)) rfl HA5.out (some ⟨wr.heap.size, 0, none⟩) 2 2 (fun h => by cases h) [.int .u8 0, .int .u8 0] rfl rfl HR5.out (byteV_one [0, 0]) (by unfold maxLen; omega) (by omega) HB5.out ?_; intro row3 w3 hown3 hgr3 hob3)
      have H3P := Lib.hid (HOW.out.post (m := [0, 0]) (M := 2) hown3 rfl hgr3 hob3)
      clear hown3 hgr3 hob3
      have HX := Lib.hid (HFIN.out _ _ _ (by have := H3P.out.1; simpa using this) (HBW.out.trans H3P.out.2))
      go_ret
      exact HX.out
end Go.Proofs.YtgolomgmnanbpaaGreatDoor
namespace Go.Proofs.YtgolomgmnanbpaaGreatDoor
set_option linter.unusedVariables false
set_option linter.unusedSimpArgs false
theorem xor63 {r : Nat} (h : r < 9223372036854775808) : r ^^^ 9223372036854775808 = 9223372036854775808 + r := by
  have e : (9223372036854775808 : Nat) = 2 ^ 63 := by decide
  rw [e] at h ⊢
  refine Nat.eq_of_testBit_eq fun i => ?_
  rw [Nat.testBit_xor, Nat.testBit_two_pow]
  rcases Nat.lt_trichotomy i 63 with hi | rfl | hi
  · rw [Nat.testBit_two_pow_add_gt hi, decide_eq_false (by omega), Bool.xor_false]
  · rw [Nat.testBit_two_pow_add_eq, decide_eq_true rfl, Bool.xor_true]
  · rw [decide_eq_false (by omega), Bool.xor_false]
    have h1 : r < 2 ^ i := Nat.lt_of_lt_of_le h (Nat.pow_le_pow_right (by decide) (by omega))
    have h2 : 2 ^ 63 + r < 2 ^ i := by
      have : 2 ^ 64 ≤ 2 ^ i := Nat.pow_le_pow_right (by decide) (by omega)
      have e2 : (2 : Nat) ^ 64 = 2 ^ 63 + 2 ^ 63 := by decide
      omega
    rw [Nat.testBit_lt_two_pow h1, Nat.testBit_lt_two_pow h2]
theorem xor63' {r : Nat} (h : r < 9223372036854775808) : (9223372036854775808 + r) ^^^ 9223372036854775808 = r := by
  rw [← xor63 h, Nat.xor_assoc, Nat.xor_self, Nat.xor_zero]
theorem u64_nat (a b : Nat) (ha : a < 18446744073709551616) (hb : b < 18446744073709551616) : bits .xor .u64 (a : Int) (b : Int) = ((a ^^^ b : Nat) : Int) := by
  have hx : a ^^^ b < 2 ^ 64 := Nat.xor_lt_two_pow (by omega) (by omega)
  show IntKind.u64.wrap ((BitVec.ofInt 64 (a : Int) ^^^ BitVec.ofInt 64 (b : Int)).toNat : Int) = _
  rw [BitVec.toNat_xor, BitVec.ofInt_natCast, BitVec.ofInt_natCast, BitVec.toNat_ofNat, BitVec.toNat_ofNat, Nat.mod_eq_of_lt (by omega), Nat.mod_eq_of_lt (by omega), IntKind.wrap_u64]
  omega
theorem xor_num {v : Int} (hv : iw v) : bits .xor .u64 (IntKind.u64.wrap v) 9223372036854775808 = ((v + 9223372036854775808).toNat : Int) := by
  unfold iw at hv
  rw [IntKind.wrap_u64]
  by_cases h : 0 ≤ v
  · obtain ⟨a, rfl⟩ : ∃ a : Nat, (a : Int) = v := ⟨v.toNat, by omega⟩
    have e1 : (a : Int) % 18446744073709551616 = (a : Int) := by omega
    rw [e1, show (9223372036854775808 : Int) = ((9223372036854775808 : Nat) : Int) from rfl, u64_nat _ _ (by omega) (by decide), xor63 (by omega)]
    congr 1; omega
  · obtain ⟨a, ha⟩ : ∃ a : Nat, (a : Int) = v + 9223372036854775808 := ⟨(v + 9223372036854775808).toNat, by omega⟩
    have e1 : v % 18446744073709551616 = ((9223372036854775808 + a : Nat) : Int) := by omega
    rw [e1, show (9223372036854775808 : Int) = ((9223372036854775808 : Nat) : Int) from rfl, u64_nat _ _ (by omega) (by decide), xor63' (by omega)]
    congr 1; omega
def numB8 (m j : Nat) : List UInt8 := (([56, 48, 40, 32, 24, 16, 8, 0] : List Nat).take j).map fun by_ => UInt8.ofNat (m / 2 ^ by_)
theorem codeN_8 (n : Int) : codeN n = 4 :: numB8 (n + 9223372036854775808).toNat 8 := rfl
end Go.Proofs.YtgolomgmnanbpaaGreatDoor
namespace Go.Proofs.YtgolomgmnanbpaaGreatDoor
set_option linter.unusedVariables false
set_option linter.unusedSimpArgs false
open Go.RowKit
attribute [local go_sem] run_index_arr run_part_agg run_part_one run_field_agg
theorem byte_is {m d : Nat} {E : Int} (h : E = ((m / d % 256 : Nat) : Int)) : [Value.int .u8 E] = byteV [UInt8.ofNat (m / d)] := by
  subst h
  show [Value.int .u8 ((m / d % 256 : Nat) : Int)] = [Value.int .u8 (((UInt8.ofNat (m / d)).toNat : Nat) : Int)]
  rw [UInt8.toNat_ofNat']
theorem numB8_step {m j by_ : Nat} (h : ([56, 48, 40, 32, 24, 16, 8, 0] : List Nat)[j]? = some by_) : numB8 m (j + 1) = numB8 m j ++ [UInt8.ofNat (m / 2 ^ by_)] := by
  unfold numB8
  rw [List.take_add_one, h, List.map_append]; rfl
set_option maxRecDepth 100000 in
set_option maxHeartbeats 4000000 in
theorem kLay3 (row : Value) (base n : Nat) (l : List UInt8) (w : World) (v : Int) (t : List UInt8) (A B : Option Addr) (nk ca ny cb : Nat) (h : OwnB base row n l w) (hn : n ≤ 100000000000) (hv : iw v) :
    Calls Tryz.prog 65 #[row, .agg #[.int .i64 3, .int .i64 v, .string ⟨t.toArray⟩, .slice A nk ca, .slice B ny cb]] w (LayP base (l ++ codeN v) row w) := by
  obtain ⟨i0, hi, hz0, hz1, hz2⟩ := info_parts infoByteK
  have HI := Lib.hid hi
  have HH0 := Lib.hid ((Held.nil w).push 25 #[.int .i64 3, .int .i64 v, .string ⟨t.toArray⟩, .slice A nk ca, .slice B ny cb] (g := w.heap.size) rfl)
  have HO := Lib.hid (h.bel HH0.out.1)
  obtain ⟨W0, hW0⟩ : ∃ W0, w.alloc (.cells #[.int .i64 3, .int .i64 v, .string ⟨t.toArray⟩, .slice A nk ca, .slice B ny cb] 25) = W0 := ⟨_, rfl⟩
  rw [hW0] at HH0 HO
  have HW0 := Lib.hid hW0
  clear hi h hW0
  have HA2 := Lib.hid (HO.out.2.1.alloc (.cells #[.int .u8 4] 5))
  have HR2 := Lib.hid (Rd.of_blk (Blk.new W0 5 #[.int .u8 4]))
  have HB2 := Lib.hid (show base ≤ (W0.alloc (.cells #[.int .u8 4] 5)).heap.size by have := HO.out.2.2; simp; omega)
  go_enter Tryz.func65, Tryz.ntmps65
  go_upto_region 10 with fail
  rw [HW0.out]
  go_upto_region 11 with (at_builtin; refine wpList_append_rd _ rfl _ _ 76 rfl base 5 i0 _ 1 1 Tryz.underlying76 HI.out hz0 hz1 hz2 rfl (by decide) row n (byteV l) rfl HA2.out (some ⟨W0.heap.size, 0, none⟩) 1 1 (fun h => by cases h) [.int .u8 4] rfl rfl HR2.out (byteV_one [4]) (by unfold maxLen; omega) (by omega) HB2.out ?_; intro row2 w2 hown2 hgr2 hob2)
  rw [xor_num hv]
  obtain ⟨m, hm⟩ : ∃ m, (v + 9223372036854775808).toNat = m := ⟨_, rfl⟩
  have hm64 : m < 18446744073709551616 := by unfold iw at hv; omega
  rw [hm]
  have H2P := Lib.hid (HO.out.post (m := [4]) (M := 1) hown2 rfl hgr2 hob2)
  have HFIN := Lib.hid (fun (r : Value) (k : Nat) (w' : World) (ho : OwnB base r k (l ++ 4 :: numB8 m 8) w') (hb : Gr row W0 r w') => show LayP base (l ++ codeN v) row w (.returned r) w' from ⟨r, k, rfl, by rw [codeN_8, hm]; exact ho, (Gr.bel HH0.out.1).trans hb⟩)
  clear hown2 hgr2 hob2 hm HA2 HR2 HB2 hv
  go_wp2
  go_loopg [0, 6] 8 (fun gk s0 s6 wr => ∃ (j : Nat) (b : Int) (r : Value), r = s0 ∧ j ≤ 8 ∧ gk = 8 - j ∧ s6 = .int .i64 b ∧ b = 56 - 8 * j ∧ Hid (OwnB base r (n + 1 + j) (l ++ 4 :: numB8 m j) wr) ∧ Hid (Gr row W0 r wr))
  case atStart => exact ⟨0, 56, _, rfl, by omega, by go_num, rfl, by omega, Lib.hid (by simpa [numB8] using H2P.out.1), Lib.hid H2P.out.2⟩
  case round =>
    obtain ⟨j, b, r, rfl, hj, hgk, rfl, hb, HOW, HBW⟩ := hrel
    have HG := Lib.hid hgk
    clear hgk H2P
    have HA := Lib.hid (fun (x : Int) => HOW.out.2.1.alloc (.cells #[.int .u8 x] 5))
    have HR := Lib.hid (fun (x : Int) => Rd.of_blk (Blk.new wr 5 #[.int .u8 x]))
    have HB := Lib.hid (fun (x : Int) => show base ≤ (wr.alloc (.cells #[.int .u8 x] 5)).heap.size by have := HOW.out.2.2; simp; omega)
    rcases (by omega : j = 0 ∨ j = 1 ∨ j = 2 ∨ j = 3 ∨ j = 4 ∨ j = 5 ∨ j = 6 ∨ j = 7 ∨ j = 8) with rfl | rfl | rfl | rfl | rfl | rfl | rfl | rfl | rfl
    · obtain rfl : b = 56 := by omega
      have HST := Lib.hid (numB8_step (m := m) (j := 0) (by_ := 56) rfl)
      clear hb hj
      go_upto_region 13 with (at_builtin; refine wpList_append_rd _ rfl _ _ 76 rfl base 5 i0 _ 1 1 Tryz.underlying76 HI.out hz0 hz1 hz2 rfl (by decide) r (n + 1 + 0) (byteV (l ++ 4 :: numB8 m 0)) rfl (HA.out _) (some ⟨wr.heap.size, 0, none⟩) 1 1 (fun h => by cases h) [.int .u8 _] rfl rfl (HR.out _) (by intro u hu; obtain rfl := List.mem_singleton.1 hu; rfl) (by unfold maxLen; omega) (by omega) (HB.out _) ?_; intro row3 w3 hown3 hgr3 hob3)
      rw [byte_is (m := m) (d := 72057594037927936) ?_] at hown3
      rotate_left
      · omega
      have H3P := Lib.hid (HOW.out.post (m := [UInt8.ofNat (m / 72057594037927936)]) (M := 1) hown3 rfl hgr3 hob3)
      clear hown3 hgr3 hob3
      go_wp2
      go_roundg (8 - (0 + 1))
      case measure => rw [HG.out]; omega
      case rel => exact ⟨1, 48, _, rfl, by omega, by first | rfl | omega, by go_num, by omega, Lib.hid (by rw [HST.out, ← List.cons_append, ← List.append_assoc]; exact H3P.out.1), Lib.hid (HBW.out.trans H3P.out.2)⟩
    · obtain rfl : b = 48 := by omega
      have HST := Lib.hid (numB8_step (m := m) (j := 1) (by_ := 48) rfl)
      clear hb hj
      go_upto_region 13 with (at_builtin; refine wpList_append_rd _ rfl _ _ 76 rfl base 5 i0 _ 1 1 Tryz.underlying76 HI.out hz0 hz1 hz2 rfl (by decide) r (n + 1 + 1) (byteV (l ++ 4 :: numB8 m 1)) rfl (HA.out _) (some ⟨wr.heap.size, 0, none⟩) 1 1 (fun h => by cases h) [.int .u8 _] rfl rfl (HR.out _) (by intro u hu; obtain rfl := List.mem_singleton.1 hu; rfl) (by unfold maxLen; omega) (by omega) (HB.out _) ?_; intro row3 w3 hown3 hgr3 hob3)
      rw [byte_is (m := m) (d := 281474976710656) ?_] at hown3
      rotate_left
      · omega
      have H3P := Lib.hid (HOW.out.post (m := [UInt8.ofNat (m / 281474976710656)]) (M := 1) hown3 rfl hgr3 hob3)
      clear hown3 hgr3 hob3
      go_wp2
      go_roundg (8 - (1 + 1))
      case measure => rw [HG.out]; omega
      case rel => exact ⟨2, 40, _, rfl, by omega, by first | rfl | omega, by go_num, by omega, Lib.hid (by rw [HST.out, ← List.cons_append, ← List.append_assoc]; exact H3P.out.1), Lib.hid (HBW.out.trans H3P.out.2)⟩
    · obtain rfl : b = 40 := by omega
      have HST := Lib.hid (numB8_step (m := m) (j := 2) (by_ := 40) rfl)
      clear hb hj
      go_upto_region 13 with (at_builtin; refine wpList_append_rd _ rfl _ _ 76 rfl base 5 i0 _ 1 1 Tryz.underlying76 HI.out hz0 hz1 hz2 rfl (by decide) r (n + 1 + 2) (byteV (l ++ 4 :: numB8 m 2)) rfl (HA.out _) (some ⟨wr.heap.size, 0, none⟩) 1 1 (fun h => by cases h) [.int .u8 _] rfl rfl (HR.out _) (by intro u hu; obtain rfl := List.mem_singleton.1 hu; rfl) (by unfold maxLen; omega) (by omega) (HB.out _) ?_; intro row3 w3 hown3 hgr3 hob3)
      rw [byte_is (m := m) (d := 1099511627776) ?_] at hown3
      rotate_left
      · omega
      have H3P := Lib.hid (HOW.out.post (m := [UInt8.ofNat (m / 1099511627776)]) (M := 1) hown3 rfl hgr3 hob3)
      clear hown3 hgr3 hob3
      go_wp2
      go_roundg (8 - (2 + 1))
      case measure => rw [HG.out]; omega
      case rel => exact ⟨3, 32, _, rfl, by omega, by first | rfl | omega, by go_num, by omega, Lib.hid (by rw [HST.out, ← List.cons_append, ← List.append_assoc]; exact H3P.out.1), Lib.hid (HBW.out.trans H3P.out.2)⟩
    · obtain rfl : b = 32 := by omega
      have HST := Lib.hid (numB8_step (m := m) (j := 3) (by_ := 32) rfl)
      clear hb hj
      go_upto_region 13 with (at_builtin; refine wpList_append_rd _ rfl _ _ 76 rfl base 5 i0 _ 1 1 Tryz.underlying76 HI.out hz0 hz1 hz2 rfl (by decide) r (n + 1 + 3) (byteV (l ++ 4 :: numB8 m 3)) rfl (HA.out _) (some ⟨wr.heap.size, 0, none⟩) 1 1 (fun h => by cases h) [.int .u8 _] rfl rfl (HR.out _) (by intro u hu; obtain rfl := List.mem_singleton.1 hu; rfl) (by unfold maxLen; omega) (by omega) (HB.out _) ?_; intro row3 w3 hown3 hgr3 hob3)
      rw [byte_is (m := m) (d := 4294967296) ?_] at hown3
      rotate_left
      · omega
      have H3P := Lib.hid (HOW.out.post (m := [UInt8.ofNat (m / 4294967296)]) (M := 1) hown3 rfl hgr3 hob3)
      clear hown3 hgr3 hob3
      go_wp2
      go_roundg (8 - (3 + 1))
      case measure => rw [HG.out]; omega
      case rel => exact ⟨4, 24, _, rfl, by omega, by first | rfl | omega, by go_num, by omega, Lib.hid (by rw [HST.out, ← List.cons_append, ← List.append_assoc]; exact H3P.out.1), Lib.hid (HBW.out.trans H3P.out.2)⟩
    · obtain rfl : b = 24 := by omega
      have HST := Lib.hid (numB8_step (m := m) (j := 4) (by_ := 24) rfl)
      clear hb hj
      go_upto_region 13 with (at_builtin; refine wpList_append_rd _ rfl _ _ 76 rfl base 5 i0 _ 1 1 Tryz.underlying76 HI.out hz0 hz1 hz2 rfl (by decide) r (n + 1 + 4) (byteV (l ++ 4 :: numB8 m 4)) rfl (HA.out _) (some ⟨wr.heap.size, 0, none⟩) 1 1 (fun h => by cases h) [.int .u8 _] rfl rfl (HR.out _) (by intro u hu; obtain rfl := List.mem_singleton.1 hu; rfl) (by unfold maxLen; omega) (by omega) (HB.out _) ?_; intro row3 w3 hown3 hgr3 hob3)
      rw [byte_is (m := m) (d := 16777216) ?_] at hown3
      rotate_left
      · omega
      have H3P := Lib.hid (HOW.out.post (m := [UInt8.ofNat (m / 16777216)]) (M := 1) hown3 rfl hgr3 hob3)
      clear hown3 hgr3 hob3
      go_wp2
      go_roundg (8 - (4 + 1))
      case measure => rw [HG.out]; omega
      case rel => exact ⟨5, 16, _, rfl, by omega, by first | rfl | omega, by go_num, by omega, Lib.hid (by rw [HST.out, ← List.cons_append, ← List.append_assoc]; exact H3P.out.1), Lib.hid (HBW.out.trans H3P.out.2)⟩
    · obtain rfl : b = 16 := by omega
      have HST := Lib.hid (numB8_step (m := m) (j := 5) (by_ := 16) rfl)
      clear hb hj
      go_upto_region 13 with (at_builtin; refine wpList_append_rd _ rfl _ _ 76 rfl base 5 i0 _ 1 1 Tryz.underlying76 HI.out hz0 hz1 hz2 rfl (by decide) r (n + 1 + 5) (byteV (l ++ 4 :: numB8 m 5)) rfl (HA.out _) (some ⟨wr.heap.size, 0, none⟩) 1 1 (fun h => by cases h) [.int .u8 _] rfl rfl (HR.out _) (by intro u hu; obtain rfl := List.mem_singleton.1 hu; rfl) (by unfold maxLen; omega) (by omega) (HB.out _) ?_; intro row3 w3 hown3 hgr3 hob3)
      rw [byte_is (m := m) (d := 65536) ?_] at hown3
      rotate_left
      · omega
      have H3P := Lib.hid (HOW.out.post (m := [UInt8.ofNat (m / 65536)]) (M := 1) hown3 rfl hgr3 hob3)
      clear hown3 hgr3 hob3
      go_wp2
      go_roundg (8 - (5 + 1))
      case measure => rw [HG.out]; omega
      case rel => exact ⟨6, 8, _, rfl, by omega, by first | rfl | omega, by go_num, by omega, Lib.hid (by rw [HST.out, ← List.cons_append, ← List.append_assoc]; exact H3P.out.1), Lib.hid (HBW.out.trans H3P.out.2)⟩
    · obtain rfl : b = 8 := by omega
      have HST := Lib.hid (numB8_step (m := m) (j := 6) (by_ := 8) rfl)
      clear hb hj
      go_upto_region 13 with (at_builtin; refine wpList_append_rd _ rfl _ _ 76 rfl base 5 i0 _ 1 1 Tryz.underlying76 HI.out hz0 hz1 hz2 rfl (by decide) r (n + 1 + 6) (byteV (l ++ 4 :: numB8 m 6)) rfl (HA.out _) (some ⟨wr.heap.size, 0, none⟩) 1 1 (fun h => by cases h) [.int .u8 _] rfl rfl (HR.out _) (by intro u hu; obtain rfl := List.mem_singleton.1 hu; rfl) (by unfold maxLen; omega) (by omega) (HB.out _) ?_; intro row3 w3 hown3 hgr3 hob3)
      rw [byte_is (m := m) (d := 256) ?_] at hown3
      rotate_left
      · omega
      have H3P := Lib.hid (HOW.out.post (m := [UInt8.ofNat (m / 256)]) (M := 1) hown3 rfl hgr3 hob3)
      clear hown3 hgr3 hob3
      go_wp2
      go_roundg (8 - (6 + 1))
      case measure => rw [HG.out]; omega
      case rel => exact ⟨7, 0, _, rfl, by omega, by first | rfl | omega, by go_num, by omega, Lib.hid (by rw [HST.out, ← List.cons_append, ← List.append_assoc]; exact H3P.out.1), Lib.hid (HBW.out.trans H3P.out.2)⟩
    · obtain rfl : b = 0 := by omega
      have HST := Lib.hid (numB8_step (m := m) (j := 7) (by_ := 0) rfl)
      clear hb hj
      go_upto_region 13 with (at_builtin; refine wpList_append_rd _ rfl _ _ 76 rfl base 5 i0 _ 1 1 Tryz.underlying76 HI.out hz0 hz1 hz2 rfl (by decide) r (n + 1 + 7) (byteV (l ++ 4 :: numB8 m 7)) rfl (HA.out _) (some ⟨wr.heap.size, 0, none⟩) 1 1 (fun h => by cases h) [.int .u8 _] rfl rfl (HR.out _) (by intro u hu; obtain rfl := List.mem_singleton.1 hu; rfl) (by unfold maxLen; omega) (by omega) (HB.out _) ?_; intro row3 w3 hown3 hgr3 hob3)
      rw [byte_is (m := m) (d := 1) ?_] at hown3
      rotate_left
      · omega
      have H3P := Lib.hid (HOW.out.post (m := [UInt8.ofNat (m / 1)]) (M := 1) hown3 rfl hgr3 hob3)
      clear hown3 hgr3 hob3
      go_wp2
      go_roundg (8 - (7 + 1))
      case measure => rw [HG.out]; omega
      case rel => exact ⟨8, -8, _, rfl, by omega, by first | rfl | omega, by go_num, by omega, Lib.hid (by rw [HST.out, ← List.cons_append, ← List.append_assoc]; exact H3P.out.1), Lib.hid (HBW.out.trans H3P.out.2)⟩
    · obtain rfl : b = -8 := by omega
      go_wp2
      go_ret
      exact HFIN.out _ _ _ HOW.out HBW.out
end Go.Proofs.YtgolomgmnanbpaaGreatDoor
namespace Go.Proofs.YtgolomgmnanbpaaGreatDoor
set_option linter.unusedVariables false
set_option linter.unusedSimpArgs false
open Go.RowKit
attribute [local go_sem] run_index_arr run_part_agg run_part_one run_field_agg
theorem kid_cellsV {W : World} {F : Nat → Prop} {css : List (List Value)} {xs : List JV} {A : Option Addr} (h : VRs W F css xs) (hr : RdF W F A css.flatten) {i : Nat} {x : JV} (hx : xs[i]? = some x) :
    ∃ (b o : Nat) (k n : Int) (s : ByteArray) (A' : Option Addr) (na ca : Nat) (B' : Option Addr) (nb cb : Nat), A = some ⟨b, o, none⟩ ∧ b < W.heap.size ∧ F b ∧ VR W F [.int .i64 k, .int .i64 n, .string s, .slice A' na ca, .slice B' nb cb] x ∧
      ∀ W', KeepF F W W' → W'.cell? ⟨b, o + i * 5, none⟩ = some (.int .i64 k) ∧ W'.cell? ⟨b, o + i * 5 + 1, none⟩ = some (.int .i64 n) ∧ W'.cell? ⟨b, o + i * 5 + 2, none⟩ = some (.string s) ∧ W'.cell? ⟨b, o + i * 5 + 3, none⟩ = some (.slice A' na ca) ∧ W'.cell? ⟨b, o + i * 5 + 4, none⟩ = some (.slice B' nb cb) := by
  obtain ⟨b, o, c, rfl, hb, hf, hv, hc⟩ := h.cell hr hx
  obtain ⟨k, n, s, A', na, ca, B', nb, cb, rfl⟩ := hv.form
  refine ⟨b, o, k, n, s, A', na, ca, B', nb, cb, rfl, hb, hf, hv, fun W' hW => ?_⟩
  have z := fun (j : Nat) u (hj : j < 5) hu => (World.cell?_of_block (w := W) (a := ⟨b, o + (i * 5 + j), none⟩) (hW.2 b hf hb)).trans (hc j u hj hu)
  exact ⟨z 0 _ (by decide) rfl, z 1 _ (by decide) rfl, z 2 _ (by decide) rfl, z 3 _ (by decide) rfl, z 4 _ (by decide) rfl⟩
theorem codeL_nil (o : Bool) (ks : List (List UInt8)) : codeL o [] ks = [] := by rw [codeL]
theorem codeL_snoc (o : Bool) : ∀ (i : Nat) (kids : List JV) (keys : List (List UInt8)) (x : JV), kids[i]? = some x →
    codeL o (kids.take (i + 1)) keys = codeL o (kids.take i) keys ++ ((if o = true then codeT (keys.getD i []) else []) ++ codeJ x)
  | 0, y :: r, keys, x, h => by
    obtain rfl : y = x := by simpa using h
    rw [List.take_succ_cons, List.take_zero, List.take_zero, codeL, codeL, codeL, List.append_nil]
    cases keys <;> rfl
  | i + 1, y :: r, keys, x, h => by
    have h' : r[i]? = some x := by simpa using h
    rw [List.take_succ_cons, List.take_succ_cons, codeL, codeL, codeL_snoc o i r keys.tail x h']
    have e : keys.tail.getD i [] = keys.getD (i + 1) [] := by cases keys <;> rfl
    rw [e]; simp only [List.append_assoc]
theorem codeL_le (o : Bool) (kids : List JV) (keys : List (List UInt8)) : ∀ i, i ≤ kids.length → (codeL o (kids.take i) keys).length ≤ (codeL o kids keys).length := by
  have key : ∀ d i, i + d = kids.length → (codeL o (kids.take i) keys).length ≤ (codeL o kids keys).length := by
    intro d
    induction d with
    | zero => intro i h; rw [List.take_of_length_le (by omega)]; exact Nat.le_refl _
    | succ d ih =>
      intro i h
      have h1 := ih (i + 1) (by omega)
      rw [codeL_snoc o i kids keys kids[i] (List.getElem?_eq_getElem (by omega)), List.length_append] at h1
      omega
  exact fun i h => key (kids.length - i) i (by omega)
mutual
theorem codeJ_len : ∀ v : JV, (codeJ v).length + 3 ≤ 13 * bulkJ v
  | .mk k n s kids keys => by
    have h1 := codeL_len true kids keys
    have h2 := codeL_len false kids keys
    have h3 := encT_len s
    unfold codeJ bulkJ
    split
    · simp; omega
    split
    · simp; omega
    split
    · rw [codeN_8, List.length_cons]; unfold numB8; rw [List.length_map, List.length_take]; simp; omega
    split
    · rw [codeT_enc, List.length_cons, List.length_append]; simp; omega
    split
    · rw [List.length_cons, List.length_append]; simp; omega
    · rw [List.length_cons, List.length_append]; simp; omega
theorem codeL_len : ∀ (o : Bool) (kids : List JV) (keys : List (List UInt8)), (codeL o kids keys).length ≤ 13 * bulkL kids + 2 * bulkK keys
  | o, [], keys => by rw [codeL_nil]; simp
  | o, x :: r, keys => by
    have h1 := codeJ_len x
    have h2 := codeL_len o r keys.tail
    rw [codeL, List.length_append, List.length_append]
    have e1 : bulkL (x :: r) = bulkJ x + bulkL r := by rw [bulkL]
    have h4 : (if o = true then codeT (keys.headD []) else []).length + 2 * bulkK keys.tail ≤ 2 * bulkK keys + 3 := by
      cases keys with
      | nil =>
        show (if o = true then codeT [] else []).length + 2 * bulkK [] ≤ _
        split <;> simp [bulkK, codeT_enc, encT]
      | cons k ks =>
        have h5 := encT_len k
        show (if o = true then codeT k else []).length + 2 * bulkK ks ≤ _
        have e2 : bulkK (k :: ks) = k.length + 1 + bulkK ks := by rw [bulkK]
        rw [e2]
        split
        · rw [codeT_enc, List.length_cons, List.length_append]; simp; omega
        · simp; omega
    have h6 := bulkJ_pos x
    rw [e1]
    omega
end
set_option maxRecDepth 100000 in
set_option maxHeartbeats 4000000 in
theorem kLay1 (row : Value) (base n : Nat) (l : List UInt8) (w : World) (v : Int) (t : List UInt8) (A B : Option Addr) (nk ca ny cb : Nat) (h : OwnB base row n l w) (hn : n ≤ 100000000000) : Calls Tryz.prog 65 #[row, .agg #[.int .i64 1, .int .i64 v, .string ⟨t.toArray⟩, .slice A nk ca, .slice B ny cb]] w (LayP base (l ++ [1]) row w) := by
  obtain ⟨i0, hi, hz0, hz1, hz2⟩ := info_parts infoByteK
  have HI := Lib.hid hi
  have HH0 := Lib.hid ((Held.nil w).push 25 #[.int .i64 1, .int .i64 v, .string ⟨t.toArray⟩, .slice A nk ca, .slice B ny cb] (g := w.heap.size) rfl)
  have HO := Lib.hid (h.bel HH0.out.1)
  obtain ⟨W0, hW0⟩ : ∃ W0, w.alloc (.cells #[.int .i64 1, .int .i64 v, .string ⟨t.toArray⟩, .slice A nk ca, .slice B ny cb] 25) = W0 := ⟨_, rfl⟩
  rw [hW0] at HH0 HO
  have HW0 := Lib.hid hW0
  have HFIN := Lib.hid (fun (r : Value) (k : Nat) (w' : World) (ho : OwnB base r k (l ++ [1]) w') (hb : Gr row W0 r w') => show LayP base (l ++ [1]) row w (.returned r) w' from ⟨r, k, rfl, ho, (Gr.bel HH0.out.1).trans hb⟩)
  clear hi h hW0
  go_enter Tryz.func65, Tryz.ntmps65
  go_upto_region 7 with fail
  rw [HW0.out]
  have HA2 := Lib.hid (HO.out.2.1.alloc (.cells #[.int .u8 1] 5))
  have HR2 := Lib.hid (Rd.of_blk (Blk.new W0 5 #[.int .u8 1]))
  have HB2 := Lib.hid (show base ≤ (W0.alloc (.cells #[.int .u8 1] 5)).heap.size by have := HO.out.2.2; simp; omega)
  go_wp2_with (at_builtin; refine wpList_append_rd _ rfl _ _ 76 rfl base 5 i0 _ 1 1 Tryz.underlying76 HI.out hz0 hz1 hz2 rfl (by decide) row n (byteV (l)) rfl HA2.out (some ⟨W0.heap.size, 0, none⟩) 1 1 (fun h => by cases h) [.int .u8 1] rfl rfl HR2.out (byteV_one [1]) (by unfold maxLen; omega) (by omega) HB2.out ?_; intro row2 w2 hown2 hgr2 hob2)
  have H2P := Lib.hid (HO.out.post (m := [1]) (M := 1) hown2 rfl hgr2 hob2)
  clear hown2 hgr2 hob2 HA2 HR2 HB2
  go_ret
  exact HFIN.out _ _ _ H2P.out.1 H2P.out.2
set_option maxRecDepth 100000 in
set_option maxHeartbeats 4000000 in
theorem kLay20 (row : Value) (base n : Nat) (l : List UInt8) (w : World) (v : Int) (t : List UInt8) (A B : Option Addr) (nk ca ny cb : Nat) (h : OwnB base row n l w) (hn : n ≤ 100000000000) : Calls Tryz.prog 65 #[row, .agg #[.int .i64 2, .int .i64 0, .string ⟨t.toArray⟩, .slice A nk ca, .slice B ny cb]] w (LayP base (l ++ [2]) row w) := by
  obtain ⟨i0, hi, hz0, hz1, hz2⟩ := info_parts infoByteK
  have HI := Lib.hid hi
  have HH0 := Lib.hid ((Held.nil w).push 25 #[.int .i64 2, .int .i64 0, .string ⟨t.toArray⟩, .slice A nk ca, .slice B ny cb] (g := w.heap.size) rfl)
  have HO := Lib.hid (h.bel HH0.out.1)
  obtain ⟨W0, hW0⟩ : ∃ W0, w.alloc (.cells #[.int .i64 2, .int .i64 0, .string ⟨t.toArray⟩, .slice A nk ca, .slice B ny cb] 25) = W0 := ⟨_, rfl⟩
  rw [hW0] at HH0 HO
  have HW0 := Lib.hid hW0
  have HFIN := Lib.hid (fun (r : Value) (k : Nat) (w' : World) (ho : OwnB base r k (l ++ [2]) w') (hb : Gr row W0 r w') => show LayP base (l ++ [2]) row w (.returned r) w' from ⟨r, k, rfl, ho, (Gr.bel HH0.out.1).trans hb⟩)
  clear hi h hW0
  obtain ⟨c0, f0, l0⟩ := HH0.out.b0.rules
  go_enter Tryz.func65, Tryz.ntmps65
  go_upto_region 8 with fail
  rw [HW0.out]
  have HA2 := Lib.hid (HO.out.2.1.alloc (.cells #[.int .u8 2] 5))
  have HR2 := Lib.hid (Rd.of_blk (Blk.new W0 5 #[.int .u8 2]))
  have HB2 := Lib.hid (show base ≤ (W0.alloc (.cells #[.int .u8 2] 5)).heap.size by have := HO.out.2.2; simp; omega)
  go_wp2_with (at_builtin; refine wpList_append_rd _ rfl _ _ 76 rfl base 5 i0 _ 1 1 Tryz.underlying76 HI.out hz0 hz1 hz2 rfl (by decide) row n (byteV (l)) rfl HA2.out (some ⟨W0.heap.size, 0, none⟩) 1 1 (fun h => by cases h) [.int .u8 2] rfl rfl HR2.out (byteV_one [2]) (by unfold maxLen; omega) (by omega) HB2.out ?_; intro row2 w2 hown2 hgr2 hob2)
  have H2P := Lib.hid (HO.out.post (m := [2]) (M := 1) hown2 rfl hgr2 hob2)
  clear hown2 hgr2 hob2 HA2 HR2 HB2
  go_ret
  exact HFIN.out _ _ _ H2P.out.1 H2P.out.2
set_option maxRecDepth 100000 in
set_option maxHeartbeats 4000000 in
theorem kLay21 (row : Value) (base n : Nat) (l : List UInt8) (w : World) (v : Int) (t : List UInt8) (A B : Option Addr) (nk ca ny cb : Nat) (h : OwnB base row n l w) (hn : n ≤ 100000000000) : Calls Tryz.prog 65 #[row, .agg #[.int .i64 2, .int .i64 1, .string ⟨t.toArray⟩, .slice A nk ca, .slice B ny cb]] w (LayP base (l ++ [3]) row w) := by
  obtain ⟨i0, hi, hz0, hz1, hz2⟩ := info_parts infoByteK
  have HI := Lib.hid hi
  have HH0 := Lib.hid ((Held.nil w).push 25 #[.int .i64 2, .int .i64 1, .string ⟨t.toArray⟩, .slice A nk ca, .slice B ny cb] (g := w.heap.size) rfl)
  have HO := Lib.hid (h.bel HH0.out.1)
  obtain ⟨W0, hW0⟩ : ∃ W0, w.alloc (.cells #[.int .i64 2, .int .i64 1, .string ⟨t.toArray⟩, .slice A nk ca, .slice B ny cb] 25) = W0 := ⟨_, rfl⟩
  rw [hW0] at HH0 HO
  have HW0 := Lib.hid hW0
  have HFIN := Lib.hid (fun (r : Value) (k : Nat) (w' : World) (ho : OwnB base r k (l ++ [3]) w') (hb : Gr row W0 r w') => show LayP base (l ++ [3]) row w (.returned r) w' from ⟨r, k, rfl, ho, (Gr.bel HH0.out.1).trans hb⟩)
  clear hi h hW0
  obtain ⟨c0, f0, l0⟩ := HH0.out.b0.rules
  go_enter Tryz.func65, Tryz.ntmps65
  go_upto_region 8 with fail
  rw [HW0.out]
  have HA2 := Lib.hid (HO.out.2.1.alloc (.cells #[.int .u8 3] 5))
  have HR2 := Lib.hid (Rd.of_blk (Blk.new W0 5 #[.int .u8 3]))
  have HB2 := Lib.hid (show base ≤ (W0.alloc (.cells #[.int .u8 3] 5)).heap.size by have := HO.out.2.2; simp; omega)
  go_wp2_with (at_builtin; refine wpList_append_rd _ rfl _ _ 76 rfl base 5 i0 _ 1 1 Tryz.underlying76 HI.out hz0 hz1 hz2 rfl (by decide) row n (byteV (l)) rfl HA2.out (some ⟨W0.heap.size, 0, none⟩) 1 1 (fun h => by cases h) [.int .u8 3] rfl rfl HR2.out (byteV_one [3]) (by unfold maxLen; omega) (by omega) HB2.out ?_; intro row2 w2 hown2 hgr2 hob2)
  have H2P := Lib.hid (HO.out.post (m := [3]) (M := 1) hown2 rfl hgr2 hob2)
  clear hown2 hgr2 hob2 HA2 HR2 HB2
  go_ret
  exact HFIN.out _ _ _ H2P.out.1 H2P.out.2
set_option maxRecDepth 100000 in
set_option maxHeartbeats 4000000 in
theorem kLay4 (row : Value) (base n : Nat) (l : List UInt8) (w : World) (v : Int) (t : List UInt8) (A B : Option Addr) (nk ca ny cb : Nat) (h : OwnB base row n l w) (hn : n ≤ 100000000000) (ht : t.length ≤ 4194304) : Calls Tryz.prog 65 #[row, .agg #[.int .i64 4, .int .i64 v, .string ⟨t.toArray⟩, .slice A nk ca, .slice B ny cb]] w (LayP base (l ++ codeT t) row w) := by
  obtain ⟨i0, hi, hz0, hz1, hz2⟩ := info_parts infoByteK
  have HI := Lib.hid hi
  have HH0 := Lib.hid ((Held.nil w).push 25 #[.int .i64 4, .int .i64 v, .string ⟨t.toArray⟩, .slice A nk ca, .slice B ny cb] (g := w.heap.size) rfl)
  have HO := Lib.hid (h.bel HH0.out.1)
  obtain ⟨W0, hW0⟩ : ∃ W0, w.alloc (.cells #[.int .i64 4, .int .i64 v, .string ⟨t.toArray⟩, .slice A nk ca, .slice B ny cb] 25) = W0 := ⟨_, rfl⟩
  rw [hW0] at HH0 HO
  have HW0 := Lib.hid hW0
  have HFIN := Lib.hid (fun (r : Value) (k : Nat) (w' : World) (ho : OwnB base r k (l ++ codeT t) w') (hb : Gr row W0 r w') => show LayP base (l ++ codeT t) row w (.returned r) w' from ⟨r, k, rfl, ho, (Gr.bel HH0.out.1).trans hb⟩)
  have HT := Lib.hid (kLayText row base n l t W0 HO.out hn ht)
  clear hi h hW0
  obtain ⟨c0, f0, l0⟩ := HH0.out.b0.rules
  go_enter Tryz.func65, Tryz.ntmps65
  go_upto_region 16 with fail
  rw [HW0.out]
  go_wp2_with fail
  refine HT.out.mono ?_
  rintro e w2 ⟨r2, n2, rfl, ho2, hg2⟩
  have HX := Lib.hid (HFIN.out _ _ _ ho2 hg2)
  clear ho2 hg2 c0 f0 l0
  go_wp2
  go_ret
  exact HX.out
def ForV (x : JV) : Prop := ∀ (row : Value) (base n : Nat) (l : List UInt8) (cs : List Value) (w : World), OwnB base row n l w → VR w (fun b => b < base) cs x → n + (codeJ x).length ≤ 100000000000 →
  Calls Tryz.prog 65 #[row, .agg cs.toArray] w (LayP base (l ++ codeJ x) row w)
set_option maxRecDepth 100000 in
set_option maxHeartbeats 8000000 in
theorem kLay5 (row : Value) (base n : Nat) (l : List UInt8) (w : World) (v : Int) (t : List UInt8) (A B : Option Addr) (nk ca ny cb : Nat) (kids : List JV) (keys : List (List UInt8)) (css : List (List Value)) (h : OwnB base row n l w)
    (hvs : VRs w (fun b => b < base) css kids) (hrA : RdF w (fun b => b < base) A css.flatten) (hrB : RdF w (fun b => b < base) B (strV keys)) (hnk : kids.length = nk) (hny : keys.length = ny) (hkk : false = true → nk = ny) (hca : nk ≤ ca) (hcb : ny ≤ cb) (hk9 : nk ≤ 4194304) (hkl : ∀ q ∈ keys, q.length ≤ 4194304)
    (ih : ∀ x ∈ kids, ForV x) (hn : n + (6 :: (codeL false kids keys ++ [0])).length ≤ 100000000000) :
    Calls Tryz.prog 65 #[row, .agg #[.int .i64 5, .int .i64 v, .string ⟨t.toArray⟩, .slice A nk ca, .slice B ny cb]] w (LayP base (l ++ 6 :: (codeL false kids keys ++ [0])) row w) := by
  obtain ⟨i0, hi, hz0, hz1, hz2⟩ := info_parts infoByteK
  have HI := Lib.hid hi
  have HH0 := Lib.hid ((Held.nil w).push 25 #[.int .i64 5, .int .i64 v, .string ⟨t.toArray⟩, .slice A nk ca, .slice B ny cb] (g := w.heap.size) rfl)
  have HO := Lib.hid (h.bel HH0.out.1)
  obtain ⟨W0, hW0⟩ : ∃ W0, w.alloc (.cells #[.int .i64 5, .int .i64 v, .string ⟨t.toArray⟩, .slice A nk ca, .slice B ny cb] 25) = W0 := ⟨_, rfl⟩
  rw [hW0] at HH0 HO
  have HW0 := Lib.hid hW0
  have HFIN := Lib.hid (fun (r : Value) (k : Nat) (w' : World) (ho : OwnB base r k (l ++ 6 :: (codeL false kids keys ++ [0])) w') (hb : Gr row W0 r w') => show LayP base (l ++ 6 :: (codeL false kids keys ++ [0])) row w (.returned r) w' from ⟨r, k, rfl, ho, (Gr.bel HH0.out.1).trans hb⟩)
  have HVS := Lib.hid (And.intro hvs (And.intro hrA hrB))
  have HIH := Lib.hid ih
  have HKL := Lib.hid hkl
  have HKK := Lib.hid hkk
  have HNK := Lib.hid hnk
  have HNY := Lib.hid hny
  have HLE := Lib.hid (codeL_le false kids keys)
  have hcl : (codeL false kids keys).length + n + 2 ≤ 100000000000 := by rw [List.length_cons, List.length_append] at hn; simp at hn; omega
  have HRW := Lib.hid (fun (q : Nat) (e : row.ownBlock = some q) => show base ≤ q ∧ q < w.heap.size from h.2.1.lt q e)
  have HKF := Lib.hid (fun (r : Value) (wr : World) (hg : Gr row W0 r wr) => show KeepF (fun b => b < base) w wr from ((Gr.bel HH0.out.1).trans hg).keepF (fun q hq e => by have := (h.2.1.lt q e.symm).1; omega))
  have HBX := Lib.hid (fun (r : Value) (wr : World) (hg : Gr row W0 r wr) => hg.blk HH0.out.b0 (fun e => by have := (h.2.1.lt _ e.symm).2; omega))
  clear hi h hW0 hvs hrA hrB ih hkl hnk hny hn hkk
  obtain ⟨c0, f0, l0⟩ := HH0.out.b0.rules
  go_enter Tryz.func65, Tryz.ntmps65
  go_upto_region 17 with fail
  rw [HW0.out]
  have HA2 := Lib.hid (HO.out.2.1.alloc (.cells #[.int .u8 6] 5))
  have HR2 := Lib.hid (Rd.of_blk (Blk.new W0 5 #[.int .u8 6]))
  have HB2 := Lib.hid (show base ≤ (W0.alloc (.cells #[.int .u8 6] 5)).heap.size by have := HO.out.2.2; simp; omega)
  go_upto_region 18 with (at_builtin; refine wpList_append_rd _ rfl _ _ 76 rfl base 5 i0 _ 1 1 Tryz.underlying76 HI.out hz0 hz1 hz2 rfl (by decide) row n (byteV (l)) rfl HA2.out (some ⟨W0.heap.size, 0, none⟩) 1 1 (fun h => by cases h) [.int .u8 6] rfl rfl HR2.out (byteV_one [6]) (by unfold maxLen; omega) (by omega) HB2.out ?_; intro row2 w2 hown2 hgr2 hob2)
  have H2P := Lib.hid (HO.out.post (m := [6]) (M := 1) hown2 rfl hgr2 hob2)
  clear hown2 hgr2 hob2 HA2 HR2 HB2
  clear c0 f0 l0
  obtain ⟨c0, f0, l0⟩ := (HBX.out _ _ H2P.out.2).rules
  go_wp2
  clear c0 f0 l0
  go_loopg [0, 66] nk (fun gk s0 s66 wr => ∃ (i m : Nat) (r : Value), r = s0 ∧ i ≤ nk ∧ gk = nk - i ∧ s66 = .int .i64 (i : Int) ∧ Hid (OwnB base r m (l ++ 6 :: codeL false (kids.take i) keys) wr) ∧ Hid (Gr row W0 r wr))
  case atStart => exact ⟨0, n + 1, _, rfl, Nat.zero_le _, by go_num, rfl, Lib.hid (by rw [List.take_zero, codeL_nil]; exact H2P.out.1), Lib.hid H2P.out.2⟩
  case round =>
    obtain ⟨i, m, r, rfl, hi, hgk, rfl, HOW, HGW⟩ := hrel
    have HG := Lib.hid hgk
    clear hgk H2P
    obtain ⟨c0, f0, l0⟩ := (HBX.out _ _ HGW.out).rules
    have hmn : m = n + 1 + (codeL false (kids.take i) keys).length := by
      have h1 := HOW.out.1
      rw [List.length_append, List.length_cons, HO.out.1] at h1; omega
    have hle := HLE.out i (by rw [HNK.out]; exact hi)
    by_cases hlt : i < nk
    · obtain ⟨x, hx⟩ : ∃ x, kids[i]? = some x := ⟨_, List.getElem?_eq_getElem (by rw [HNK.out]; exact hlt)⟩
      have hKF := HKF.out _ _ HGW.out
      obtain ⟨b, o, kx, nx, sx, Ax, nax, cax, Bx, nbx, cbx, rfl, hb, hfb, hvx, hz⟩ := kid_cellsV HVS.out.1 HVS.out.2.1 hx
      obtain ⟨z0, z1, z2, z3, z4⟩ := hz wr hKF
      have hlb : b < wr.heap.size := Nat.lt_of_lt_of_le hb hKF.1
      have hsn := codeL_snoc false i kids keys x hx
      have hle2 := HLE.out (i + 1) (by rw [HNK.out]; omega)
      rw [hsn, List.length_append, List.length_append] at hle2
      have HSN := Lib.hid hsn
      have hbA := (Below.refl wr.heap.size wr).alloc (Nat.le_refl _) (.cells #[.int .i64 kx, .int .i64 nx, .string sx, .slice Ax nax cax, .slice Bx nbx cbx] 25)
      have HO2 := Lib.hid (HOW.out.bel hbA)
      have HG2 := Lib.hid (HGW.out.trans (Gr.bel hbA))
      have HVX := Lib.hid (hvx.keep hKF)
      have HXB := Lib.hid (Blk.new wr 25 #[.int .i64 kx, .int .i64 nx, .string sx, .slice Ax nax cax, .slice Bx nbx cbx])
      have HIX := Lib.hid (HIH.out x (List.mem_of_getElem? hx))
      have HRB := Lib.hid (fun (q : Nat) (e : r.ownBlock = some q) => HOW.out.2.1.lt q e)
      have HCL := Lib.hid (HIX.out r base m _ _ _ HO2.out (HVX.out.bel hbA) (by have e0 : (if false = true then codeT (keys.getD i []) else []).length = 0 := rfl; omega))
      clear hz hx hb hfb hvx hKF hbA hsn
      go_wp2_with fail
      refine HCL.out.mono ?_
      rintro e w3 ⟨r3, m3, rfl, ho3, hg3⟩
      have HO3 := Lib.hid ho3
      have HG3 := Lib.hid (HG2.out.trans hg3)
      clear ho3 hg3 z0 z1 z2 z3 z4 c0 f0 l0
      go_wp2
      go_roundg (nk - (i + 1))
      case measure => rw [HG.out]; omega
      case rel => exact ⟨i + 1, m3, r3, rfl, by omega, rfl, by go_num, Lib.hid (by rw [HSN.out]; have := HO3.out; simpa using this), HG3⟩
    · obtain rfl : i = nk := by omega
      have hl : kids.take i = kids := List.take_of_length_le (Nat.le_of_eq HNK.out)
      rw [hl] at HOW
      clear hl c0 f0 l0
      have HA3 := Lib.hid (HOW.out.2.1.alloc (.cells #[.int .u8 0] 5))
      have HR3 := Lib.hid (Rd.of_blk (Blk.new wr 5 #[.int .u8 0]))
      have HB3 := Lib.hid (show base ≤ (wr.alloc (.cells #[.int .u8 0] 5)).heap.size by have := HOW.out.2.2; simp; omega)
      go_wp2_with (at_builtin; refine wpList_append_rd _ rfl _ _ 76 rfl base 5 i0 _ 1 1 Tryz.underlying76 HI.out hz0 hz1 hz2 rfl (by decide) r m (byteV (l ++ 6 :: codeL false kids keys)) rfl HA3.out (some ⟨wr.heap.size, 0, none⟩) 1 1 (fun h => by cases h) [.int .u8 0] rfl rfl HR3.out (byteV_one [0]) (by unfold maxLen; omega) (by omega) HB3.out ?_; intro row3 w3 hown3 hgr3 hob3)
      have H3P := Lib.hid (HOW.out.post (m := [0]) (M := 1) hown3 rfl hgr3 hob3)
      clear hown3 hgr3 hob3 HA3 HR3 HB3
      have HX := Lib.hid (HFIN.out _ _ _ (by have := H3P.out.1; simpa using this) (HGW.out.trans H3P.out.2))
      go_ret
      exact HX.out
set_option maxRecDepth 100000 in
set_option maxHeartbeats 8000000 in
theorem kLay6 (row : Value) (base n : Nat) (l : List UInt8) (w : World) (v : Int) (t : List UInt8) (A B : Option Addr) (nk ca ny cb : Nat) (kids : List JV) (keys : List (List UInt8)) (css : List (List Value)) (h : OwnB base row n l w)
    (hvs : VRs w (fun b => b < base) css kids) (hrA : RdF w (fun b => b < base) A css.flatten) (hrB : RdF w (fun b => b < base) B (strV keys)) (hnk : kids.length = nk) (hny : keys.length = ny) (hkk : true = true → nk = ny) (hca : nk ≤ ca) (hcb : ny ≤ cb) (hk9 : nk ≤ 4194304) (hkl : ∀ q ∈ keys, q.length ≤ 4194304)
    (ih : ∀ x ∈ kids, ForV x) (hn : n + (7 :: (codeL true kids keys ++ [0])).length ≤ 100000000000) :
    Calls Tryz.prog 65 #[row, .agg #[.int .i64 6, .int .i64 v, .string ⟨t.toArray⟩, .slice A nk ca, .slice B ny cb]] w (LayP base (l ++ 7 :: (codeL true kids keys ++ [0])) row w) := by
  obtain ⟨i0, hi, hz0, hz1, hz2⟩ := info_parts infoByteK
  have HI := Lib.hid hi
  have HH0 := Lib.hid ((Held.nil w).push 25 #[.int .i64 6, .int .i64 v, .string ⟨t.toArray⟩, .slice A nk ca, .slice B ny cb] (g := w.heap.size) rfl)
  have HO := Lib.hid (h.bel HH0.out.1)
  obtain ⟨W0, hW0⟩ : ∃ W0, w.alloc (.cells #[.int .i64 6, .int .i64 v, .string ⟨t.toArray⟩, .slice A nk ca, .slice B ny cb] 25) = W0 := ⟨_, rfl⟩
  rw [hW0] at HH0 HO
  have HW0 := Lib.hid hW0
  have HFIN := Lib.hid (fun (r : Value) (k : Nat) (w' : World) (ho : OwnB base r k (l ++ 7 :: (codeL true kids keys ++ [0])) w') (hb : Gr row W0 r w') => show LayP base (l ++ 7 :: (codeL true kids keys ++ [0])) row w (.returned r) w' from ⟨r, k, rfl, ho, (Gr.bel HH0.out.1).trans hb⟩)
  have HVS := Lib.hid (And.intro hvs (And.intro hrA hrB))
  have HIH := Lib.hid ih
  have HKL := Lib.hid hkl
  have HKK := Lib.hid hkk
  have HNK := Lib.hid hnk
  have HNY := Lib.hid hny
  have HLE := Lib.hid (codeL_le true kids keys)
  have hcl : (codeL true kids keys).length + n + 2 ≤ 100000000000 := by rw [List.length_cons, List.length_append] at hn; simp at hn; omega
  have HRW := Lib.hid (fun (q : Nat) (e : row.ownBlock = some q) => show base ≤ q ∧ q < w.heap.size from h.2.1.lt q e)
  have HKF := Lib.hid (fun (r : Value) (wr : World) (hg : Gr row W0 r wr) => show KeepF (fun b => b < base) w wr from ((Gr.bel HH0.out.1).trans hg).keepF (fun q hq e => by have := (h.2.1.lt q e.symm).1; omega))
  have HBX := Lib.hid (fun (r : Value) (wr : World) (hg : Gr row W0 r wr) => hg.blk HH0.out.b0 (fun e => by have := (h.2.1.lt _ e.symm).2; omega))
  clear hi h hW0 hvs hrA hrB ih hkl hnk hny hn hkk
  obtain ⟨c0, f0, l0⟩ := HH0.out.b0.rules
  go_enter Tryz.func65, Tryz.ntmps65
  go_upto_region 19 with fail
  rw [HW0.out]
  have HA2 := Lib.hid (HO.out.2.1.alloc (.cells #[.int .u8 7] 5))
  have HR2 := Lib.hid (Rd.of_blk (Blk.new W0 5 #[.int .u8 7]))
  have HB2 := Lib.hid (show base ≤ (W0.alloc (.cells #[.int .u8 7] 5)).heap.size by have := HO.out.2.2; simp; omega)
  go_upto_region 20 with (at_builtin; refine wpList_append_rd _ rfl _ _ 76 rfl base 5 i0 _ 1 1 Tryz.underlying76 HI.out hz0 hz1 hz2 rfl (by decide) row n (byteV (l)) rfl HA2.out (some ⟨W0.heap.size, 0, none⟩) 1 1 (fun h => by cases h) [.int .u8 7] rfl rfl HR2.out (byteV_one [7]) (by unfold maxLen; omega) (by omega) HB2.out ?_; intro row2 w2 hown2 hgr2 hob2)
  have H2P := Lib.hid (HO.out.post (m := [7]) (M := 1) hown2 rfl hgr2 hob2)
  clear hown2 hgr2 hob2 HA2 HR2 HB2
  clear c0 f0 l0
  obtain ⟨c0, f0, l0⟩ := (HBX.out _ _ H2P.out.2).rules
  go_wp2
  clear c0 f0 l0
  go_loopg [0, 66] nk (fun gk s0 s66 wr => ∃ (i m : Nat) (r : Value), r = s0 ∧ i ≤ nk ∧ gk = nk - i ∧ s66 = .int .i64 (i : Int) ∧ Hid (OwnB base r m (l ++ 7 :: codeL true (kids.take i) keys) wr) ∧ Hid (Gr row W0 r wr))
  case atStart => exact ⟨0, n + 1, _, rfl, Nat.zero_le _, by go_num, rfl, Lib.hid (by rw [List.take_zero, codeL_nil]; exact H2P.out.1), Lib.hid H2P.out.2⟩
  case round =>
    obtain ⟨i, m, r, rfl, hi, hgk, rfl, HOW, HGW⟩ := hrel
    have HG := Lib.hid hgk
    clear hgk H2P
    obtain ⟨c0, f0, l0⟩ := (HBX.out _ _ HGW.out).rules
    have hmn : m = n + 1 + (codeL true (kids.take i) keys).length := by
      have h1 := HOW.out.1
      rw [List.length_append, List.length_cons, HO.out.1] at h1; omega
    have hle := HLE.out i (by rw [HNK.out]; exact hi)
    by_cases hlt : i < nk
    · obtain ⟨x, hx⟩ : ∃ x, kids[i]? = some x := ⟨_, List.getElem?_eq_getElem (by rw [HNK.out]; exact hlt)⟩
      have hKF := HKF.out _ _ HGW.out
      obtain ⟨b, o, kx, nx, sx, Ax, nax, cax, Bx, nbx, cbx, rfl, hb, hfb, hvx, hz⟩ := kid_cellsV HVS.out.1 HVS.out.2.1 hx
      obtain ⟨z0, z1, z2, z3, z4⟩ := hz wr hKF
      have hlb : b < wr.heap.size := Nat.lt_of_lt_of_le hb hKF.1
      have hsn := codeL_snoc true i kids keys x hx
      have hle2 := HLE.out (i + 1) (by rw [HNK.out]; omega)
      rw [hsn, List.length_append, List.length_append] at hle2
      have HSN := Lib.hid hsn
      have hbA := (Below.refl wr.heap.size wr).alloc (Nat.le_refl _) (.cells #[.int .i64 kx, .int .i64 nx, .string sx, .slice Ax nax cax, .slice Bx nbx cbx] 25)
      have HO2 := Lib.hid (HOW.out.bel hbA)
      have HG2 := Lib.hid (HGW.out.trans (Gr.bel hbA))
      have HVX := Lib.hid (hvx.keep hKF)
      have HXB := Lib.hid (Blk.new wr 25 #[.int .i64 kx, .int .i64 nx, .string sx, .slice Ax nax cax, .slice Bx nbx cbx])
      have HIX := Lib.hid (HIH.out x (List.mem_of_getElem? hx))
      have HRB := Lib.hid (fun (q : Nat) (e : r.ownBlock = some q) => HOW.out.2.1.lt q e)
      have hy : i < keys.length := by rw [HNY.out]; have := HKK.out (by first | trivial | rfl); omega
      have hrd := (HVS.out.2.2).keep hKF
      obtain ⟨by_, oy, rfl, hby, _, hcy⟩ := hrd (by intro e; have := strV_len keys; rw [e] at this; simp at this; omega)
      have y0 : wr.cell? ⟨by_, oy + i, none⟩ = some (.string ⟨keys[i].toArray⟩) := by rw [hcy i (by rw [strV_len]; exact hy)]; simp [strV]
      have hkd : keys.getD i [] = keys[i] := by rw [List.getD_eq_getElem?_getD, List.getElem?_eq_getElem hy, Option.getD_some]
      have hkc : (if true = true then codeT (keys.getD i []) else []) = codeT keys[i] := by rw [if_pos rfl, hkd]
      rw [hkc] at hle2
      obtain ⟨ky, hky⟩ : ∃ q, keys[i] = q := ⟨_, rfl⟩
      have hkyl : ky.length ≤ 4194304 := by rw [← hky]; exact HKL.out _ (List.getElem_mem hy)
      rw [hky] at y0 hle2 hkc
      have HKC := Lib.hid hkc
      have hiny : i < ny := by have := HKK.out (by first | trivial | rfl); omega
      have HTX := Lib.hid (kLayText r base m _ ky _ HO2.out (by omega) hkyl)
      clear hz hx hb hfb hvx hKF hsn hrd hcy hkc hkd hky hy
      go_upto_region 25 with ((go_at_call 102; refine HTX.out.mono ?_; rintro e w3 ⟨r3, m3, rfl, ho3, hg3⟩))
      have HO3 := Lib.hid ho3
      have HG3 := Lib.hid (HG2.out.trans hg3)
      have HX3 := Lib.hid (hg3.blk HXB.out (fun e => by have := (HRB.out _ e.symm).2; omega))
      have hm3 : m3 = m + (codeT ky).length := by have h1 := ho3.1; have h2 := HO2.out.1; rw [List.length_append, h2] at h1; omega
      have HCL := Lib.hid (HIX.out r3 base m3 _ _ _ HO3.out ((HVX.out.bel hbA).keep (hg3.keepF (fun q hq e => by have := (HRB.out _ e.symm).1; omega))) (by omega))
      clear ho3 hg3 z0 z1 z2 z3 z4 c0 f0 l0 y0 hbA
      obtain ⟨c0, f0, l0⟩ := HX3.out.rules
      go_wp2_with fail
      refine HCL.out.mono ?_
      rintro e w4 ⟨r4, m4, rfl, ho4, hg4⟩
      have HO4 := Lib.hid ho4
      have HG4 := Lib.hid (HG3.out.trans hg4)
      clear ho4 hg4 c0 f0 l0
      go_wp2
      go_roundg (nk - (i + 1))
      case measure => rw [HG.out]; omega
      case rel => exact ⟨i + 1, m4, r4, rfl, by omega, rfl, by go_num, Lib.hid (by rw [HSN.out, HKC.out]; have := HO4.out; simpa using this), HG4⟩
    · obtain rfl : i = nk := by omega
      have hl : kids.take i = kids := List.take_of_length_le (Nat.le_of_eq HNK.out)
      rw [hl] at HOW
      clear hl c0 f0 l0
      have HA3 := Lib.hid (HOW.out.2.1.alloc (.cells #[.int .u8 0] 5))
      have HR3 := Lib.hid (Rd.of_blk (Blk.new wr 5 #[.int .u8 0]))
      have HB3 := Lib.hid (show base ≤ (wr.alloc (.cells #[.int .u8 0] 5)).heap.size by have := HOW.out.2.2; simp; omega)
      go_wp2_with (at_builtin; refine wpList_append_rd _ rfl _ _ 76 rfl base 5 i0 _ 1 1 Tryz.underlying76 HI.out hz0 hz1 hz2 rfl (by decide) r m (byteV (l ++ 7 :: codeL true kids keys)) rfl HA3.out (some ⟨wr.heap.size, 0, none⟩) 1 1 (fun h => by cases h) [.int .u8 0] rfl rfl HR3.out (byteV_one [0]) (by unfold maxLen; omega) (by omega) HB3.out ?_; intro row3 w3 hown3 hgr3 hob3)
      have H3P := Lib.hid (HOW.out.post (m := [0]) (M := 1) hown3 rfl hgr3 hob3)
      clear hown3 hgr3 hob3 HA3 HR3 HB3
      have HX := Lib.hid (HFIN.out _ _ _ (by have := H3P.out.1; simpa using this) (HGW.out.trans H3P.out.2))
      go_ret
      exact HX.out
end Go.Proofs.YtgolomgmnanbpaaGreatDoor
