/- The walk of the reference's quoted texts. -/
import Derived.Test.YtoejdhabpajhlaaGreatDoorRef6b
namespace Go.Proofs.YtoejdhabpajhlaaGreatDoor
set_option linter.unusedVariables false
set_option linter.unusedSimpArgs false
open Go.RowKit
attribute [local go_sem] run_index_arr run_part_agg run_part_one run_field_agg

/-- the bytes of a code point, as the reference looks for a letter below c -/
def ownTo (x : Nat) (base : List UInt8) : Nat → List UInt8
  | 0 => base
  | c + 1 => if letterS c = some x ∧ c ≠ 47 then [92, UInt8.ofNat c] else ownTo x base c
theorem ownTo_base {x : Nat} {base : List UInt8} : ∀ {c : Nat}, (∀ k, k < c → ¬ (letterS k = some x ∧ k ≠ 47)) → ownTo x base c = base
  | 0, _ => rfl
  | c + 1, h => by rw [ownTo, if_neg (h c (Nat.lt_succ_self c)), ownTo_base (fun k hk => h k (by omega))]
theorem letter_esc {k x : Nat} (h : letterS k = some x) (hk : k ≠ 47) : escOf x = some k := by
  unfold letterS at h
  repeat' split at h
  all_goals first
    | (simp only [Option.some.injEq] at h; subst h; subst_vars; first | rfl | exact absurd rfl hk)
    | cases h
theorem ownTo_hit {x s : Nat} {base : List UInt8} (hs : letterS s = some x ∧ s ≠ 47) : ∀ {c : Nat}, s < c → ownTo x base c = [92, UInt8.ofNat s]
  | 0, h => by omega
  | c + 1, h => by
    rw [ownTo]
    by_cases hc : letterS c = some x ∧ c ≠ 47
    · rw [if_pos hc]
      have h1 := letter_esc hc.1 hc.2
      have h2 := letter_esc hs.1 hs.2
      rw [h1] at h2
      rw [Option.some.inj h2]
    · rw [if_neg hc]
      refine ownTo_hit hs ?_
      rcases Nat.lt_or_ge s c with h3 | h3
      · exact h3
      · exact absurd (by rw [show c = s by omega]; exact hs) hc
theorem ownTo_all (x : Nat) : ownTo x (if x < 32 then [92, 117, 48, 48, UInt8.ofNat (48 + x / 16), UInt8.ofNat (hexD (x % 16))] else cpBytes x) 128 = qSignT x := by
  unfold qSignT
  cases he : escOf x with
  | some s =>
    have h := escOf_some he
    rw [ownTo_hit (s := s) ⟨h.2.1, by omega⟩ (by omega)]
  | none =>
    rw [ownTo_base]
    intro k _ ⟨h1, h2⟩
    rw [letter_esc h1 h2] at he; cases he
theorem hexAt2 (k : Nat) (h : k < (⟨#[48, 49, 50, 51, 52, 53, 54, 55, 56, 57, 97, 98, 99, 100, 101, 102]⟩ : ByteArray).size) : (⟨#[48, 49, 50, 51, 52, 53, 54, 55, 56, 57, 97, 98, 99, 100, 101, 102]⟩ : ByteArray)[k] = UInt8.ofNat (hexD k) := by
  have key : ∀ k : Fin 16, (⟨#[48, 49, 50, 51, 52, 53, 54, 55, 56, 57, 97, 98, 99, 100, 101, 102]⟩ : ByteArray)[k.1] = UInt8.ofNat (hexD k.1) := by decide
  exact key ⟨k, h⟩
theorem natV_ne {cs : List Nat} (h : 0 < cs.length) : natV cs ≠ [] := by
  intro e
  have := congrArg List.length e
  simp only [natV, List.length_map, List.length_nil] at this
  omega
/-- the rows that the reference has: what is written, and the code point's own bytes -/
def R2St (w : World) (l : List UInt8) (v : Value) (W : World) : Prop := W.ownsRow w.heap.size 5 1 v l.length (byteV l) ∧ Below w.heap.size w W
theorem R2St.bel {w W W' : World} {l : List UInt8} {v : Value} (h : R2St w l v W) (hb : Below W.heap.size W W') : R2St w l v W' := ⟨own_below h.1 hb, h.2.trans (hb.mono h.2.size)⟩
set_option maxRecDepth 100000 in
set_option maxHeartbeats 16000000 in
theorem r2Print (A : Option Addr) (n cap : Nat) (cs : List Nat) (w : World) (hn : cs.length = n) (hcap : n ≤ cap) (hr : Rd w A (natV cs)) (hcp : ∀ c ∈ cs, isCp (c : Int) = true) (hn8 : n ≤ 4194304) :
    Calls Tryz.prog 62 #[.slice A n cap] w (StrS (34 :: cs.flatMap qSignT ++ [34]) w) := by
  obtain ⟨i0, hi, hz0, hz1, hz2⟩ := info_parts infoByte
  have HI := Lib.hid hi
  have HN := Lib.hid hn
  have HR := Lib.hid hr
  have HCP := Lib.hid hcp
  have HB0 := Lib.hid (show R2St w [34] (.slice (some ⟨w.heap.size, 0, none⟩) 1 1) (w.alloc (.cells #[.int .u8 34] 5)) from
    ⟨⟨rfl, .inr ⟨w.heap.size, 1, _, rfl, Nat.le_refl _, Blk.new w 5 #[.int .u8 34], Nat.le_refl _, by decide, rfl, rfl⟩⟩, (Below.refl _ w).alloc (Nat.le_refl _) _⟩)
  clear hi hn hr hcp
  go_enter Tryz.func62, Tryz.ntmps62
  go_wp2
  go_loopg [3, 5, 6, 7] n (fun gk s3 s5 s6 s7 wr => ∃ (i : Nat), gk = n - i ∧ i ≤ n ∧ s5 = .int .i64 i ∧ Hid (R2St w (34 :: (cs.take i).flatMap qSignT) s3 wr))
  case atStart => exact ⟨0, rfl, Nat.zero_le _, by go_num, HB0⟩
  case round =>
    obtain ⟨i, hgk, hi, rfl, HX⟩ := hrel
    have HG := Lib.hid hgk
    clear hgk HB0
    by_cases hlt : i < n
    · obtain ⟨x, hx⟩ : ∃ x, cs[i]? = some x := ⟨_, List.getElem?_eq_getElem (by rw [HN.out]; exact hlt)⟩
      have hcx := HCP.out x (List.mem_of_getElem? hx)
      have hle := (isCp_iff x).1 hcx
      obtain ⟨b, oo, rfl, hb, hrc⟩ := HR.out (natV_ne (by rw [HN.out]; omega))
      have hbr : b < wr.heap.size := Nat.lt_of_lt_of_le hb HX.out.2.size
      have hcell0 : w.cell? ⟨b, oo + i, none⟩ = some (.int .i64 (x : Int)) := by
        rw [hrc i (by simp [natV, HN.out]; exact hlt)]
        have := (List.getElem?_eq_some_iff.1 hx).2
        simp [natV, this]
      have HCL := Lib.hid (fun (W : World) (h : Below w.heap.size w W) => (h.cell (p := ⟨b, oo + i, none⟩) hb).trans hcell0)
      have htk : (cs.take (i + 1)).flatMap qSignT = (cs.take i).flatMap qSignT ++ qSignT x := by rw [List.take_add_one, hx]; simp
      have hbd : (34 :: (cs.take i).flatMap qSignT).length + 6 ≤ 140737488355328 := by
        have h := qf_len (cs.take i)
        have h2 : (cs.take i).length ≤ n := by rw [List.length_take]; omega
        rw [List.length_cons]; omega
      obtain ⟨L, hL⟩ : ∃ L, 34 :: (cs.take i).flatMap qSignT = L := ⟨_, rfl⟩
      rw [hL] at HX hbd
      have HND := Lib.hid (show 34 :: (cs.take (i + 1)).flatMap qSignT = L ++ qSignT x by rw [htk, ← hL]; rfl)
      have HBD := Lib.hid hbd
      have HOA := Lib.hid (ownTo_all x)
      have HQL := Lib.hid (qsign_len x)
      obtain ⟨xi, hxi⟩ : ∃ xi : Int, (x : Int) = xi := ⟨_, rfl⟩
      have HBY := Lib.hid (fun W => rBytes_any (x : Int) W (by omega) (by omega))
      rw [Int.toNat_natCast] at HBY
      rw [hxi] at HCL HBY
      have hx0 : 0 ≤ xi := by omega
      have hx1 : xi ≤ 9223372036854775807 := by omega
      have HXI := Lib.hid hxi
      obtain ⟨A3, n3, c3, rfl⟩ : ∃ A n c, u3 = .slice A n c := by
        obtain ⟨a, c, e, _⟩ := Rd.of_own HX.out.1
        exact ⟨_, _, _, e⟩
      have hcell := HCL.out wr HX.out.2
      clear hcx hle hrc hcell0 htk hbd hL hxi hx
      go_wp2_with fail
      refine (HBY.out _).mono ?_
      rintro e w3 ⟨v6, rfl, hv6, hb3⟩
      have HX3 := Lib.hid (HX.out.bel hb3)
      have HV6 := Lib.hid hv6
      obtain ⟨A6, c6, rfl, _⟩ := hv6
      have hcell3 := HCL.out w3 HX3.out.2
      have hbr3 : b < w3.heap.size := Nat.lt_of_lt_of_le hb HX3.out.2.size
      clear hb3 hcell hbr
      by_cases h32 : xi < 32
      · have hx32 : x < 32 := by have := HXI.out; omega
        have HXN := Lib.hid (show xi.toNat = x by have := HXI.out; omega)
        obtain ⟨base, hbase⟩ : ∃ base, base = [92, 117, 48, 48, UInt8.ofNat (48 + x / 16), UInt8.ofNat (hexD (x % 16))] := ⟨_, rfl⟩
        have HBA0 := Lib.hid hbase
        have HOAB := Lib.hid (show ownTo x base 128 = qSignT x by have h := HOA.out; rw [if_pos hx32, ← hbase] at h; exact h)
        clear hbase
        have hq0 : 0 ≤ xi / 16 := by omega
        have hq1 : xi / 16 < 16 := by omega
        have hm0 : 0 ≤ xi % 16 := by omega
        have hm1 : xi % 16 < 16 := by omega
        go_wp2
        go_region
        go_wp2
        have HLB := Lib.hid (fun (h1 : (xi / 16).toNat < (⟨#[48, 49, 50, 51, 52, 53, 54, 55, 56, 57, 97, 98, 99, 100, 101, 102]⟩ : ByteArray).size) (h2 : (xi % 16).toNat < (⟨#[48, 49, 50, 51, 52, 53, 54, 55, 56, 57, 97, 98, 99, 100, 101, 102]⟩ : ByteArray).size) =>
          show (#[.int .u8 92, .int .u8 117, .int .u8 48, .int .u8 48, .int .u8 ((⟨#[48, 49, 50, 51, 52, 53, 54, 55, 56, 57, 97, 98, 99, 100, 101, 102]⟩ : ByteArray)[(xi / 16).toNat].toNat), .int .u8 ((⟨#[48, 49, 50, 51, 52, 53, 54, 55, 56, 57, 97, 98, 99, 100, 101, 102]⟩ : ByteArray)[(xi % 16).toNat].toNat)] : Array Value) = (byteV base).toArray by
            have e1 : (xi / 16).toNat = x / 16 := by have := HXI.out; omega
            have e2 : (xi % 16).toNat = x % 16 := by have := HXI.out; omega
            rw [hexAt2, hexAt2, e1, e2, HBA0.out]
            have e3 : hexD (x / 16) = 48 + x / 16 := by unfold hexD; rw [if_pos (by omega)]
            rw [e3]; rfl)
        clear hcell3 hbr3 hx32
        go_loopg [6, 7] 128 (fun gk s6 s7 wx => ∃ c : Nat, gk = 128 - c ∧ c ≤ 128 ∧ s7 = .int .u8 c ∧ Hid (BS wx s6 (ownTo x base c)) ∧ Hid (R2St w L (.slice A3 n3 c3) wx))
        case atStart => exact ⟨0, rfl, by omega, rfl, Lib.hid (BS.lit w3 base _ (HLB.out _ _) 6 (by rw [HBA0.out]; rfl)), Lib.hid (HX3.out.bel (((Below.refl _ w3).alloc (Nat.le_refl _) _).drew))⟩
        case round =>
          obtain ⟨c, hgk2, hc128, rfl, HBS, HX7⟩ := hrel
          have HG2 := Lib.hid hgk2
          clear hgk2
          by_cases hc : c < 128
          · have hu : (UInt8.ofNat c).toNat = c := oN8 c (by omega)
            obtain ⟨r, hr9⟩ : ∃ r, optI (letterS c) = r := ⟨_, rfl⟩
            have HLT := Lib.hid (fun W => show Calls Tryz.prog 81 #[.int .u8 (c : Int)] W (fun e w' => e = .returned (.int .i64 r) ∧ Below W.heap.size W w') by
              have h := rLetterS_any (UInt8.ofNat c) W
              rw [hu, hr9] at h; exact h)
            have hcell7 := HCL.out wr HX7.out.2
            have hbr7 : b < wr.heap.size := Nat.lt_of_lt_of_le hb HX7.out.2.size
            have HCX := Lib.hid (fun (W : World) (h : Below wr.heap.size wr W) => HCL.out W (HX7.out.bel h).2)
            have HBX := Lib.hid (fun (W : World) (h : Below wr.heap.size wr W) => Nat.lt_of_lt_of_le hbr7 h.size)
            have HRX := Lib.hid hr9
            clear hu hr9
            by_cases hit : letterS c = some x
            · have hrx : r = xi := by rw [← HRX.out, hit, ← HXI.out]; rfl
              subst hrx
              by_cases h47 : c = 47
              · have HOT := Lib.hid (show ownTo x base (c + 1) = ownTo x base c by rw [ownTo, if_neg (fun h => h.2 h47)])
                subst h47
                clear hit
                go_wp2
                first | (go_region_with (go_at_call 81; refine (HLT.out _).mono ?_; rintro e w5 ⟨rfl, hb5⟩; have hd5 : Below wr.heap.size wr w5 := (Below.refl wr.heap.size wr).drew.trans hb5; have hc5 := HCX.out w5 hd5; have hl5 := HBX.out w5 hd5)) | fail "no way"
                all_goals
                  have HXA := Lib.hid (HX7.out.bel hd5)
                  have HBA := Lib.hid (HBS.out.below hd5)
                  clear hb5 hd5 hc5 hl5 hcell7 hbr7
                  go_wp2
                  go_roundg (128 - (47 + 1))
                  case measure => rw [HG2.out]; omega
                  case rel => exact ⟨47 + 1, rfl, by omega, by go_num, Lib.hid (by rw [HOT.out]; exact HBA.out), HXA⟩
              · have HOT := Lib.hid (show ownTo x base (c + 1) = [92, UInt8.ofNat c] by rw [ownTo, if_pos ⟨hit, h47⟩])
                have h47' : ((c : Int) != 47) = true := by simp; omega
                have HU8 := Lib.hid (oN8 c (by omega))
                clear hit
                go_wp2
                first | (go_region_with (go_at_call 81; refine (HLT.out _).mono ?_; rintro e w5 ⟨rfl, hb5⟩; have hd5 : Below wr.heap.size wr w5 := (Below.refl wr.heap.size wr).drew.trans hb5; have hc5 := HCX.out w5 hd5; have hl5 := HBX.out w5 hd5)) | fail "no way"
                all_goals
                  have HXA := Lib.hid (HX7.out.bel hd5)
                  clear hb5 hd5 hc5 hl5 hcell7 hbr7
                  go_wp2
                  go_roundg (128 - (c + 1))
                  case measure => rw [HG2.out]; omega
                  case rel => exact ⟨c + 1, rfl, by omega, by go_num, Lib.hid (by rw [HOT.out]; exact BS.lit _ _ _ (by simp only [byteV, List.map_cons, List.map_nil, HU8.out]; rfl) 2 rfl), Lib.hid (HXA.out.bel ((Below.refl _ _).alloc (Nat.le_refl _) _))⟩
            · have hrx : r ≠ xi := by
                rw [← HRX.out]
                intro e
                cases hl : letterS c with
                | none => rw [hl] at e; have : (-1 : Int) = xi := e; omega
                | some y => rw [hl] at e; have : (y : Int) = xi := e; rw [← HXI.out] at this; exact hit (by rw [hl]; congr 1; omega)
              have hrb : (r == xi) = false := by simp [hrx]
              have HOT := Lib.hid (show ownTo x base (c + 1) = ownTo x base c by rw [ownTo, if_neg (fun h => hit h.1)])
              clear hit hrx
              go_wp2
              first | (go_region_with (go_at_call 81; refine (HLT.out _).mono ?_; rintro e w5 ⟨rfl, hb5⟩; have hd5 : Below wr.heap.size wr w5 := (Below.refl wr.heap.size wr).drew.trans hb5; have hc5 := HCX.out w5 hd5; have hl5 := HBX.out w5 hd5)) | fail "no way"
              all_goals
                have HXA := Lib.hid (HX7.out.bel hd5)
                have HBA := Lib.hid (HBS.out.below hd5)
                clear hb5 hd5 hc5 hl5 hcell7 hbr7
                go_wp2
                go_roundg (128 - (c + 1))
                case measure => rw [HG2.out]; omega
                case rel => exact ⟨c + 1, rfl, by omega, by go_num, Lib.hid (by rw [HOT.out]; exact HBA.out), HXA⟩
          · obtain rfl : c = 128 := by omega
            rw [HOAB.out] at HBS
            obtain ⟨A9, c9, rfl, hc9, hr9⟩ := HBS.out
            have HR9 := Lib.hid hr9
            have HA9 := Lib.hid (show A9 = none → (qSignT x).length = 0 from fun e => by
              rcases Nat.eq_zero_or_pos (qSignT x).length with h | h
              · exact h
              · obtain ⟨_, _, e', _⟩ := Rd.some_ hr9 h; rw [e] at e'; cases e')
            obtain ⟨q9, hq9⟩ : ∃ q9, (qSignT x).length = q9 := ⟨_, rfl⟩
            have HQ9 := Lib.hid hq9
            rw [hq9] at HA9 ⊢
            clear hq9 hc9 hr9 hc
            have hBw := HX7.out.2.size
            go_wp2_with (at_builtin; refine wpList_append_rd _ rfl _ _ 34 rfl w.heap.size 5 i0 _ 1 1 Tryz.underlying34 HI.out hz0 hz1 hz2 rfl (by decide) _ _ _ rfl HX7.out.1 A9 q9 c9 HA9.out (byteV (qSignT x)) rfl (by rw [byteV_len, Nat.mul_one]; exact HQ9.out) HR9.out (byteV_one _) (by have h1 := HBD.out; have h2 := HQL.out; have h3 := HQ9.out; unfold maxLen; omega) (by have h1 := HBD.out; have h2 := HQL.out; have h3 := HQ9.out; omega) hBw ?_; intro v' w8 hown' hgr _)
            have HY := Lib.hid (show R2St w (L ++ qSignT x) v' w8 from ⟨by rw [List.length_append, HQ9.out, byteV_app]; exact hown', HX7.out.2.grown hgr hBw (fun k e => (HX7.out.1.lt k e).1)⟩)
            clear hown' hgr
            go_roundg (n - (i + 1))
            case measure => rw [HG.out]; omega
            case rel => exact ⟨i + 1, rfl, hlt, by go_num, Lib.hid (by rw [HND.out]; exact HY.out)⟩
      · have hx32 : ¬ x < 32 := by have := HXI.out; omega
        obtain ⟨base, hbase⟩ : ∃ base, base = cpBytes x := ⟨_, rfl⟩
        have HOAB := Lib.hid (show ownTo x base 128 = qSignT x by have h := HOA.out; rw [if_neg hx32, ← hbase] at h; exact h)
        have HVB := Lib.hid (show BS w3 (.slice A6 (cpBytes x).length c6) base by rw [hbase]; exact HV6.out)
        go_wp2
        clear hcell3 hbr3 hx32 hbase
        go_loopg [6, 7] 128 (fun gk s6 s7 wx => ∃ c : Nat, gk = 128 - c ∧ c ≤ 128 ∧ s7 = .int .u8 c ∧ Hid (BS wx s6 (ownTo x base c)) ∧ Hid (R2St w L (.slice A3 n3 c3) wx))
        case atStart => exact ⟨0, rfl, by omega, rfl, Lib.hid (HVB.out), Lib.hid (HX3.out)⟩
        case round =>
          obtain ⟨c, hgk2, hc128, rfl, HBS, HX7⟩ := hrel
          have HG2 := Lib.hid hgk2
          clear hgk2
          by_cases hc : c < 128
          · have hu : (UInt8.ofNat c).toNat = c := oN8 c (by omega)
            obtain ⟨r, hr9⟩ : ∃ r, optI (letterS c) = r := ⟨_, rfl⟩
            have HLT := Lib.hid (fun W => show Calls Tryz.prog 81 #[.int .u8 (c : Int)] W (fun e w' => e = .returned (.int .i64 r) ∧ Below W.heap.size W w') by
              have h := rLetterS_any (UInt8.ofNat c) W
              rw [hu, hr9] at h; exact h)
            have hcell7 := HCL.out wr HX7.out.2
            have hbr7 : b < wr.heap.size := Nat.lt_of_lt_of_le hb HX7.out.2.size
            have HCX := Lib.hid (fun (W : World) (h : Below wr.heap.size wr W) => HCL.out W (HX7.out.bel h).2)
            have HBX := Lib.hid (fun (W : World) (h : Below wr.heap.size wr W) => Nat.lt_of_lt_of_le hbr7 h.size)
            have HRX := Lib.hid hr9
            clear hu hr9
            by_cases hit : letterS c = some x
            · have hrx : r = xi := by rw [← HRX.out, hit, ← HXI.out]; rfl
              subst hrx
              by_cases h47 : c = 47
              · have HOT := Lib.hid (show ownTo x base (c + 1) = ownTo x base c by rw [ownTo, if_neg (fun h => h.2 h47)])
                subst h47
                clear hit
                go_wp2
                first | (go_region_with (go_at_call 81; refine (HLT.out _).mono ?_; rintro e w5 ⟨rfl, hb5⟩; have hd5 : Below wr.heap.size wr w5 := (Below.refl wr.heap.size wr).drew.trans hb5; have hc5 := HCX.out w5 hd5; have hl5 := HBX.out w5 hd5)) | fail "no way"
                all_goals
                  have HXA := Lib.hid (HX7.out.bel hd5)
                  have HBA := Lib.hid (HBS.out.below hd5)
                  clear hb5 hd5 hc5 hl5 hcell7 hbr7
                  go_wp2
                  go_roundg (128 - (47 + 1))
                  case measure => rw [HG2.out]; omega
                  case rel => exact ⟨47 + 1, rfl, by omega, by go_num, Lib.hid (by rw [HOT.out]; exact HBA.out), HXA⟩
              · have HOT := Lib.hid (show ownTo x base (c + 1) = [92, UInt8.ofNat c] by rw [ownTo, if_pos ⟨hit, h47⟩])
                have h47' : ((c : Int) != 47) = true := by simp; omega
                have HU8 := Lib.hid (oN8 c (by omega))
                clear hit
                go_wp2
                first | (go_region_with (go_at_call 81; refine (HLT.out _).mono ?_; rintro e w5 ⟨rfl, hb5⟩; have hd5 : Below wr.heap.size wr w5 := (Below.refl wr.heap.size wr).drew.trans hb5; have hc5 := HCX.out w5 hd5; have hl5 := HBX.out w5 hd5)) | fail "no way"
                all_goals
                  have HXA := Lib.hid (HX7.out.bel hd5)
                  clear hb5 hd5 hc5 hl5 hcell7 hbr7
                  go_wp2
                  go_roundg (128 - (c + 1))
                  case measure => rw [HG2.out]; omega
                  case rel => exact ⟨c + 1, rfl, by omega, by go_num, Lib.hid (by rw [HOT.out]; exact BS.lit _ _ _ (by simp only [byteV, List.map_cons, List.map_nil, HU8.out]; rfl) 2 rfl), Lib.hid (HXA.out.bel ((Below.refl _ _).alloc (Nat.le_refl _) _))⟩
            · have hrx : r ≠ xi := by
                rw [← HRX.out]
                intro e
                cases hl : letterS c with
                | none => rw [hl] at e; have : (-1 : Int) = xi := e; omega
                | some y => rw [hl] at e; have : (y : Int) = xi := e; rw [← HXI.out] at this; exact hit (by rw [hl]; congr 1; omega)
              have hrb : (r == xi) = false := by simp [hrx]
              have HOT := Lib.hid (show ownTo x base (c + 1) = ownTo x base c by rw [ownTo, if_neg (fun h => hit h.1)])
              clear hit hrx
              go_wp2
              first | (go_region_with (go_at_call 81; refine (HLT.out _).mono ?_; rintro e w5 ⟨rfl, hb5⟩; have hd5 : Below wr.heap.size wr w5 := (Below.refl wr.heap.size wr).drew.trans hb5; have hc5 := HCX.out w5 hd5; have hl5 := HBX.out w5 hd5)) | fail "no way"
              all_goals
                have HXA := Lib.hid (HX7.out.bel hd5)
                have HBA := Lib.hid (HBS.out.below hd5)
                clear hb5 hd5 hc5 hl5 hcell7 hbr7
                go_wp2
                go_roundg (128 - (c + 1))
                case measure => rw [HG2.out]; omega
                case rel => exact ⟨c + 1, rfl, by omega, by go_num, Lib.hid (by rw [HOT.out]; exact HBA.out), HXA⟩
          · obtain rfl : c = 128 := by omega
            rw [HOAB.out] at HBS
            obtain ⟨A9, c9, rfl, hc9, hr9⟩ := HBS.out
            have HR9 := Lib.hid hr9
            have HA9 := Lib.hid (show A9 = none → (qSignT x).length = 0 from fun e => by
              rcases Nat.eq_zero_or_pos (qSignT x).length with h | h
              · exact h
              · obtain ⟨_, _, e', _⟩ := Rd.some_ hr9 h; rw [e] at e'; cases e')
            obtain ⟨q9, hq9⟩ : ∃ q9, (qSignT x).length = q9 := ⟨_, rfl⟩
            have HQ9 := Lib.hid hq9
            rw [hq9] at HA9 ⊢
            clear hq9 hc9 hr9 hc
            have hBw := HX7.out.2.size
            go_wp2_with (at_builtin; refine wpList_append_rd _ rfl _ _ 34 rfl w.heap.size 5 i0 _ 1 1 Tryz.underlying34 HI.out hz0 hz1 hz2 rfl (by decide) _ _ _ rfl HX7.out.1 A9 q9 c9 HA9.out (byteV (qSignT x)) rfl (by rw [byteV_len, Nat.mul_one]; exact HQ9.out) HR9.out (byteV_one _) (by have h1 := HBD.out; have h2 := HQL.out; have h3 := HQ9.out; unfold maxLen; omega) (by have h1 := HBD.out; have h2 := HQL.out; have h3 := HQ9.out; omega) hBw ?_; intro v' w8 hown' hgr _)
            have HY := Lib.hid (show R2St w (L ++ qSignT x) v' w8 from ⟨by rw [List.length_append, HQ9.out, byteV_app]; exact hown', HX7.out.2.grown hgr hBw (fun k e => (HX7.out.1.lt k e).1)⟩)
            clear hown' hgr
            go_roundg (n - (i + 1))
            case measure => rw [HG.out]; omega
            case rel => exact ⟨i + 1, rfl, hlt, by go_num, Lib.hid (by rw [HND.out]; exact HY.out)⟩
    · obtain rfl : i = n := by omega
      have htk : cs.take i = cs := List.take_of_length_le (by rw [HN.out]; exact Nat.le_refl _)
      rw [htk] at HX
      have hbd : (34 :: cs.flatMap qSignT).length + 1 ≤ 140737488355328 := by
        have h := qf_len cs
        have h2 := HN.out
        rw [List.length_cons]; omega
      obtain ⟨L, hL⟩ : ∃ L, 34 :: cs.flatMap qSignT = L := ⟨_, rfl⟩
      have HL := Lib.hid hL
      rw [hL] at HX hbd
      have HBD := Lib.hid hbd
      clear hbd hL htk hlt
      have hB1 := HX.out.2.size
      obtain ⟨A3, n3, c3, rfl⟩ : ∃ A n c, u3 = .slice A n c := by
        obtain ⟨a, c, e, _⟩ := Rd.of_own HX.out.1
        exact ⟨_, _, _, e⟩
      have HO1 := Lib.hid ((HX.out.bel ((Below.refl _ wr).alloc (Nat.le_refl _) (.cells #[.int .u8 34] 5))).1)
      have HO2 := Lib.hid ((Below.refl wr.heap.size wr).alloc (Nat.le_refl _) (.cells #[.int .u8 34] 5))
      have HBS := Lib.hid (BS.lit wr [34] #[.int .u8 34] (by rfl) 1 (by rfl))
      have hB2 : w.heap.size ≤ (wr.alloc (.cells #[.int .u8 34] 5)).heap.size := Nat.le_trans hB1 HO2.out.size
      have HRD := Lib.hid (show Rd (wr.alloc (.cells #[.int .u8 34] 5)) (some ⟨wr.heap.size, 0, none⟩) (byteV [34]) by
        obtain ⟨A, c, e, _, h⟩ := HBS.out
        cases e; exact h)
      go_wp2_with (at_builtin; refine wpList_append_rd _ rfl _ _ 34 rfl w.heap.size 5 i0 _ 1 1 Tryz.underlying34 HI.out hz0 hz1 hz2 rfl (by decide) _ _ _ rfl HO1.out (some ⟨wr.heap.size, 0, none⟩) 1 1 (fun h => nomatch h) (byteV [34]) rfl rfl HRD.out (byteV_one _) (by have h1 := HBD.out; unfold maxLen; omega) (by have h1 := HBD.out; omega) hB2 ?_; intro v' w8 hown' hgr _)
      have HBL := Lib.hid (HX.out.2.trans (HO2.out.mono hB1))
      have hbel := HBL.out.grown hgr hB2 (fun k e => (HO1.out.lt k e).1)
      have hown2 : w8.ownsRow w.heap.size 5 1 v' (L ++ [34]).length (byteV (L ++ [34])) := by rw [byteV_app, List.length_append]; exact hown'
      obtain ⟨a5, c5, rfl, hc5, hr5⟩ := Rd.of_own hown2
      have hcv := BS.conv (show BS w8 (.slice a5 (L ++ [34]).length c5) (L ++ [34]) from ⟨_, _, rfl, hc5, hr5⟩)
      obtain ⟨n5, hn5⟩ : ∃ n5, (L ++ [34]).length = n5 := ⟨_, rfl⟩
      rw [hn5] at hcv ⊢
      clear hn5 hc5 hown' hown2 hr5
      go_wp2
      rw [hcv]
      go_wp2
      first | go_ret | (rw [Exit.noGoto_ret]; go_ret2) | skip
      exact ⟨by rw [← HL.out]; rfl, hbel⟩
end Go.Proofs.YtoejdhabpajhlaaGreatDoor
