import Derived.Test.YtgolomgmnanbpaaGreatDoorZ18
import Derived.Test.YtgolomgmnanbpaaGreatDoorZ03
import Derived.Deep.RegionHeld3
namespace Go.Proofs.YtgolomgmnanbpaaGreatDoor
set_option linter.unusedVariables false
set_option linter.unusedSimpArgs false
open Go.RowKit
attribute [local go_sem] run_index_arr run_part_agg run_part_one run_field_agg
set_option maxRecDepth 100000 in
theorem qSize_any (s : List UInt8) (w : World) (hG : GOK w) (ht : txtOk s = true) (hl : s.length ≤ 4194304) : Calls Tryz.prog 152 #[.string ⟨s.toArray⟩] w fun e w' => e = .returned (.int .i64 (quoT s).length) ∧ Below w.heap.size w w' := by
  have HP := Lib.hid (qPrint_any s w hG ht hl)
  obtain ⟨q, hq⟩ : ∃ q, quoT s = q := ⟨_, rfl⟩
  unfold QuoPost at HP
  rw [hq] at HP ⊢
  clear hG ht hl hq
  go_enter Tryz.func152, Tryz.ntmps152
  go_wp2_with fail
  refine HP.out.mono ?_
  rintro e w1 ⟨rfl, hb⟩
  go_wp2
  go_ret
  refine ⟨?_, hb⟩
  simp [ByteArray.size]
def WS (B g : Nat) (l : List UInt8) (w0 w : World) : Prop := WIs B g l w ∧ GOK w ∧ Below B w0 w ∧ OthW g w0 w ∧ 2 < B ∧ B ≤ w.heap.size
section
variable {B g : Nat} {l m : List UInt8} {w0 w w' : World}
theorem OthW.of_bel (h : Below w.heap.size w w') : OthW g w w' := fun k o hk _ _ => (h.block k (Array.getElem?_eq_some_iff.1 hk).1).trans hk
theorem OthW.blk (h : OthW g w w') {k : Nat} {t : TypeId} {cs : Array Value} (hk : Blk w k t cs) (ht : t ≠ 5) (hg : k ≠ g) : Blk w' k t cs :=
  h k _ hk (fun e => hg (Option.some.inj e)) (fun c fz e => ht (by injection e))
theorem WAt.bel {p : Value} (h : WAt B g p l w) (hb : Below w.heap.size w w') : WAt B g p l w' := by
  obtain ⟨h1, v, h2, h3, h4⟩ := h
  exact ⟨h1, v, (hb.block g (Array.getElem?_eq_some_iff.1 h2).1).trans h2, ownBel h3 hb, h4⟩
theorem WIs.bel (h : WIs B g l w) (hb : Below w.heap.size w w') : WIs B g l w' := h.elim (fun x => .inl (WAt.bel x hb)) (fun x => .inr (WAt.bel x hb))
theorem WIs.ne (h : WIs B g l w) {k : Nat} {t : TypeId} {cs : Array Value} (hk : Blk w k t cs) (ht : t ≠ 119) : k ≠ g := by
  rintro rfl
  obtain ⟨p, _, v, h2, _⟩ := h.some_
  unfold Blk at hk
  rw [hk] at h2
  injection h2 with h2
  injection h2 with _ h2
  exact ht h2
theorem WS.bel (h : WS B g l w0 w) (hb : Below w.heap.size w w') : WS B g l w0 w' := by
  obtain ⟨h1, h2, h3, h4, h5, h6⟩ := h
  exact ⟨h1.bel hb, h2.keep hb, h3.trans (hb.mono h6), h4.trans (OthW.of_bel hb), h5, Nat.le_trans h6 hb.size⟩
theorem WS.alloc (h : WS B g l w0 w) (o : Obj) : WS B g l w0 (w.alloc o) := h.bel ((Below.refl _ w).alloc (Nat.le_refl _) o)
theorem WS.drew (h : WS B g l w0 w) : WS B g l w0 w.drew := h.bel (Below.refl _ w).drew
theorem WS.drewN (h : WS B g l w0 w) (n : Nat) : WS B g l w0 (w.drewN n) := h.bel (bel_drewN (Below.refl _ w) n)
theorem WS.here (h : WS B g l w0 w) : WS B g l w w := ⟨h.1, h.2.1, Below.refl _ _, Lib.OthersKept.refl _ _ _, h.2.2.2.2⟩
theorem WS.step {r : Ending} {e : Ending} (h : WS B g l w0 w) (hp : WPost B g m r w e w') : WS B g m w0 w' := by
  obtain ⟨h1, h2, h3, h4, h5, h6⟩ := h
  obtain ⟨_, k1, k2, k3⟩ := hp
  exact ⟨k1, h2.below k2 h5, h3.trans k2, h4.trans k3, h5, Nat.le_trans h6 k2.size⟩
theorem WS.post (h : WS B g l w0 w) {r : Ending} : WPost B g l r w0 r w := ⟨rfl, h.1, h.2.2.1, h.2.2.2.1⟩
theorem WS.blk (h : WS B g l w0 w) (h0 : WIs B g m w0) {k : Nat} {t : TypeId} {cs : Array Value} (hk : Blk w0 k t cs) (ht : t ≠ 5) (ht' : t ≠ 119) : Blk w k t cs :=
  h.2.2.2.1.blk hk ht (h0.ne hk ht')
theorem WPost.back {r e : Ending} (h : WPost B g l r w e w') (hb : Below w0.heap.size w0 w) (hB : B ≤ w0.heap.size) : WPost B g l r w0 e w' :=
  ⟨h.1, h.2.1, (hb.mono hB).trans h.2.2.1, (OthW.of_bel hb).trans h.2.2.2⟩
end
theorem strV_blk {w : World} {k : Nat} {ks : List (List UInt8)} (h : Blk w k 9 (strV ks).toArray) {i : Nat} {s : List UInt8} (hi : ks[i]? = some s) : w.cell? ⟨k, i, none⟩ = some (.string ⟨s.toArray⟩) := by
  rw [h.cell]
  simp [strV, hi]
set_option maxRecDepth 100000 in
set_option maxHeartbeats 4000000 in
theorem wPut (B g : Nat) (l : List UInt8) (ks : List (List UInt8)) (k n : Nat) (w : World) (hw : WS B g l w w) (hk : Blk w k 9 (strV ks).toArray) (hn : ks.length = n) (hn8 : n ≤ 4194304) (hb : l.length + ks.flatten.length ≤ 70368744177664) :
    Calls Tryz.prog 107 #[.pointer (some ⟨g, 0, none⟩), .slice (some ⟨k, 0, none⟩) n n] w (WPost B g (l ++ ks.flatten) (.returned (.tuple #[])) w) := by
  have HW := Lib.hid hw
  have HK := Lib.hid hk
  have HN := Lib.hid hn
  have HBD := Lib.hid hb
  clear hw hk hn hb
  go_enter Tryz.func107, Tryz.ntmps107
  go_wp2
  go_loopg [8] n (fun gk s8 wr => ∃ i : Nat, gk = n - i ∧ i ≤ n ∧ s8 = .int .i64 i ∧ Hid (WS B g (l ++ (ks.take i).flatten) w wr))
  case atStart => exact ⟨0, rfl, Nat.zero_le _, rfl, Lib.hid (by simpa using HW.out)⟩
  case round =>
    obtain ⟨i, hgk, hi, rfl, HX⟩ := hrel
    have HG := Lib.hid hgk
    clear hgk
    by_cases hlt : i < n
    · obtain ⟨s, hs⟩ : ∃ s, ks[i]? = some s := ⟨_, List.getElem?_eq_getElem (by rw [HN.out]; exact hlt)⟩
      have hc := strV_blk (HX.out.blk HW.out.1 HK.out (by decide) (by decide)) hs
      have htk : (ks.take (i + 1)).flatten = (ks.take i).flatten ++ s := by rw [List.take_add_one, hs]; simp
      have hle : ((ks.take (i + 1)).flatten).length ≤ ks.flatten.length := by
        have h := congrArg (fun x => (List.flatten x).length) (List.take_append_drop (i + 1) ks)
        simp only [List.flatten_append, List.length_append] at h
        omega
      have hsz : (l ++ (ks.take i).flatten).length + (⟨s.toArray⟩ : ByteArray).size ≤ 140737488355328 := by
        have h1 := HBD.out
        rw [htk, List.length_append] at hle
        rw [List.length_append]
        show _ + s.length ≤ _
        omega
      have HSZ := Lib.hid hsz
      have HTK := Lib.hid htk
      clear hsz htk hle hs
      go_wp2_with fail
      refine (bWrite B g _ _ _ HX.out.1 HSZ.out HX.out.2.2.2.2.2).mono ?_
      rintro e w1 hp
      have HX2 := Lib.hid (HX.out.step hp)
      obtain rfl := hp.1
      clear hp hc
      go_wp2
      go_roundg (n - (i + 1))
      case measure => rw [HG.out]; omega
      case rel => exact ⟨i + 1, rfl, hlt, by go_num, Lib.hid (by rw [HTK.out, ← List.append_assoc]; exact HX2.out)⟩
    · obtain rfl : i = n := by omega
      have htk : ks.take i = ks := List.take_of_length_le (by rw [HN.out]; exact Nat.le_refl _)
      rw [htk] at HX
      clear htk
      go_wp2
      go_end0
      exact HX.out.post
theorem wPut1 (B g : Nat) (l s : List UInt8) (k : Nat) (t : ByteArray) (w0 w : World) (hw : WS B g l w0 w) (hk : k = w.heap.size) (ht : t = ⟨s.toArray⟩) (hb : l.length + s.length ≤ 70368744177664) :
    Calls Tryz.prog 107 #[.pointer (some ⟨g, 0, none⟩), .slice (some ⟨k, 0, none⟩) 1 1] (w.alloc (.cells #[.string t] 9)) fun e w' => e = .returned (.tuple #[]) ∧ WS B g (l ++ s) w0 w' ∧ OthW g w w' := by
  subst hk ht
  have h := wPut B g l [s] w.heap.size 1 (w.alloc (.cells #[.string ⟨s.toArray⟩] 9)) (hw.alloc _).here (Blk.new _ _ _) rfl (by decide) (by simpa using hb)
  rw [show l ++ [s].flatten = l ++ s from by simp] at h
  refine h.mono fun e w' hp => ⟨hp.1, (hw.alloc _).step hp, (OthW.of_bel ((Below.refl _ w).alloc (Nat.le_refl _) _)).trans hp.2.2.2⟩
set_option maxRecDepth 100000 in
set_option maxHeartbeats 4000000 in
theorem wQuoted (B g : Nat) (l s : List UInt8) (w : World) (hw : WS B g l w w) (ht : txtOk s = true) (hs : s.length ≤ 4194304) (hb : l.length + (quoT s).length ≤ 70368744177664) :
    Calls Tryz.prog 112 #[.pointer (some ⟨g, 0, none⟩), .string ⟨s.toArray⟩] w (WPost B g (l ++ quoT s) (.returned (.tuple #[])) w) := by
  have HP := Lib.hid (qPrint_any s w hw.2.1 ht hs)
  have HW := Lib.hid hw
  obtain ⟨q, hq⟩ : ∃ q, quoT s = q := ⟨_, rfl⟩
  unfold QuoPost at HP
  rw [hq] at HP hb ⊢
  have HBD := Lib.hid hb
  clear hw ht hs hq hb
  go_enter Tryz.func112, Tryz.ntmps112
  go_wp2_with fail
  refine HP.out.mono ?_
  rintro e w1 ⟨rfl, hb1⟩
  have HW1 := Lib.hid (HW.out.bel hb1)
  clear hb1
  go_wp2_with fail
  with_reducible refine (wPut1 B g l q _ _ w w1 HW1.out rfl rfl HBD.out).mono ?_
  rintro e w2 ⟨rfl, hp, _⟩
  have HX := Lib.hid hp
  clear hp
  go_wp2
  go_end0
  exact HX.out.post
end Go.Proofs.YtgolomgmnanbpaaGreatDoor
namespace Go.Proofs.YtgolomgmnanbpaaGreatDoor
set_option linter.unusedVariables false
set_option linter.unusedSimpArgs false
open Go.RowKit
attribute [local go_sem] run_index_arr run_part_agg run_part_one run_field_agg
structure Bxs (w : World) (g bw bv : Nat) (k n : Int) (s : ByteArray) (A : Option Addr) (nk ca : Nat) (A' : Option Addr) (ny cb : Nat) : Prop where
  pw : Blk w bw 140 #[.pointer (some ⟨g, 0, none⟩)]
  pv : Blk w bv 25 #[.int .i64 k, .int .i64 n, .string s, .slice A nk ca, .slice A' ny cb]
section
variable {B g bw bv : Nat} {l m : List UInt8} {w0 w : World} {k n : Int} {s : ByteArray} {A A' : Option Addr} {nk ca ny cb : Nat}
theorem Bxs.keep {w' : World} (h : Bxs w g bw bv k n s A nk ca A' ny cb) (hw : WIs B g l w) (ho : OthW g w w') : Bxs w' g bw bv k n s A nk ca A' ny cb :=
  ⟨ho.blk h.pw (by decide) (hw.ne h.pw (by decide)), ho.blk h.pv (by decide) (hw.ne h.pv (by decide))⟩
theorem Bxs.drew (h : Bxs w g bw bv k n s A nk ca A' ny cb) : Bxs w.drew g bw bv k n s A nk ca A' ny cb := ⟨h.pw.drew, h.pv.drew⟩
theorem Bxs.bel {w' : World} (h : Bxs w g bw bv k n s A nk ca A' ny cb) (hb : Below w.heap.size w w') : Bxs w' g bw bv k n s A nk ca A' ny cb := ⟨h.pw.keep hb, h.pv.keep hb⟩
end
set_option maxRecDepth 100000 in
set_option maxHeartbeats 4000000 in
theorem wNull (B g bw : Nat) (l : List UInt8) (w : World) (hw : WS B g l w w) (hbw : Blk w bw 140 #[.pointer (some ⟨g, 0, none⟩)]) (hb : l.length + 4 ≤ 70368744177664) :
    Calls Tryz.prog 106 #[.pointer (some ⟨bw, 0, none⟩)] w (WPost B g (l ++ nullT) (.returned (.tuple #[])) w) := by
  have HW := Lib.hid hw
  obtain ⟨c1, f1, l1⟩ := hbw.rules
  clear hw hbw
  go_enter Tryz.func106, Tryz.ntmps106
  go_wp2_with fail
  with_reducible refine (wPut1 B g l nullT _ _ w w HW.out rfl ?ht ?hl).mono ?_
  case ht => rfl
  case hl => exact hb
  rintro e w2 ⟨rfl, hp, _⟩
  have HX := Lib.hid hp
  clear hp
  go_wp2
  go_end0
  exact HX.out.post
set_option maxRecDepth 100000 in
set_option maxHeartbeats 4000000 in
theorem wText (B g bw bv : Nat) (l : List UInt8) (k n : Int) (s : List UInt8) (A : Option Addr) (nk ca : Nat) (A' : Option Addr) (ny cb : Nat) (w : World) (hw : WS B g l w w) (hx : Bxs w g bw bv k n ⟨s.toArray⟩ A nk ca A' ny cb) (ht : txtOk s = true) (hs : s.length ≤ 4194304) (hb : l.length + (quoT s).length ≤ 70368744177664) :
    Calls Tryz.prog 111 #[.pointer (some ⟨bw, 0, none⟩), .pointer (some ⟨bv, 0, none⟩)] w (WPost B g (l ++ quoT s) (.returned (.tuple #[])) w) := by
  have HQ := Lib.hid (wQuoted B g l s w hw ht hs hb)
  obtain ⟨c1, f1, l1⟩ := hx.pw.rules
  obtain ⟨c2, f2, l2⟩ := hx.pv.rules
  clear hw hx ht hs hb
  go_enter Tryz.func111, Tryz.ntmps111
  go_wp2_with fail
  refine HQ.out.mono ?_
  rintro e w2 hp
  obtain rfl := hp.1
  have HX := Lib.hid hp
  clear hp
  go_wp2
  go_end0
  exact HX.out
set_option maxRecDepth 100000 in
set_option maxHeartbeats 4000000 in
theorem wNum (B g bw bv : Nat) (l : List UInt8) (k n : Int) (s : ByteArray) (A : Option Addr) (nk ca : Nat) (A' : Option Addr) (ny cb : Nat) (w : World) (hw : WS B g l w w) (hx : Bxs w g bw bv k n s A nk ca A' ny cb) (hn : iw n) (hb : l.length + (numT n).length ≤ 70368744177664) :
    Calls Tryz.prog 109 #[.pointer (some ⟨bw, 0, none⟩), .pointer (some ⟨bv, 0, none⟩)] w (WPost B g (l ++ numT n) (.returned (.tuple #[])) w) := by
  have HN := Lib.hid (fun W => numPrint_any n W hn)
  have HW := Lib.hid hw
  have HBX := Lib.hid hx
  have HBD := Lib.hid hb
  obtain ⟨c1, f1, l1⟩ := hx.pw.rules
  obtain ⟨c2, f2, l2⟩ := hx.pv.rules
  clear hw hx hn hb
  go_enter Tryz.func109, Tryz.ntmps109
  go_wp2
  go_region_held3 (fun w' => w'.cell? ⟨bw, 0, none⟩ = some (.pointer (some ⟨g, 0, none⟩)) ∧ w'.cell? ⟨bv, 1, none⟩ = some (.int .i64 n)) (go_keep) (first
    | (go_at_call 110
       refine (HN.out _).mono ?_
       rintro e W1 ⟨rfl, hb1⟩
       have hx1 := HBX.out.drew.bel hb1
       have h20 := hx1.pw.cell 0
       have h21 := hx1.pv.cell 1
       simp at h20 h21)
    | (go_at_call 107
       with_reducible refine (wPut1 B g l (numT n) _ _ w W1 (HW.out.drew.bel hb1) rfl ?_ HBD.out).mono ?_
       rfl
       rintro e w2 ⟨rfl, hp, ho⟩
       have hx2 := hx1.keep (HW.out.drew.bel hb1).1 ho
       have h30 := hx2.pw.cell 0
       have h31 := hx2.pv.cell 1
       simp at h30 h31))
  all_goals
    go_wp2
    go_end0
    exact hp.post
set_option maxRecDepth 100000 in
set_option maxHeartbeats 4000000 in
theorem wBool (B g bw bv : Nat) (l : List UInt8) (k n : Int) (s : ByteArray) (A : Option Addr) (nk ca : Nat) (A' : Option Addr) (ny cb : Nat) (w : World) (hw : WS B g l w w) (hx : Bxs w g bw bv k n s A nk ca A' ny cb) (hn : n = 0 ∨ n = 1) (hb : l.length + 5 ≤ 70368744177664) :
    Calls Tryz.prog 108 #[.pointer (some ⟨bw, 0, none⟩), .pointer (some ⟨bv, 0, none⟩)] w (WPost B g (l ++ (if n = 1 then trueT else falseT)) (.returned (.tuple #[])) w) := by
  have HW := Lib.hid hw
  have HBX := Lib.hid hx
  have HBD := Lib.hid hb
  obtain ⟨c1, f1, l1⟩ := hx.pw.rules
  obtain ⟨c2, f2, l2⟩ := hx.pv.rules
  clear hw hx hb
  rcases hn with rfl | rfl
  · rw [if_neg (by decide)]
    replace HBD : Hid (l.length + [falseT].flatten.length ≤ 70368744177664) := Lib.hid (by have := HBD.out; simpa [falseT] using this)
    have HKF := Lib.hid (fun (o : Obj) => show Blk ((w.alloc o).alloc (.cells #[.string ⟨#[102, 97, 108, 115, 101]⟩] 9)).drew (w.heap.size + 1) 9 (strV [falseT]).toArray from by
      have h := Blk.new (w.alloc o) 9 #[.string ⟨#[102, 97, 108, 115, 101]⟩]
      rw [World.size_alloc] at h; exact h.drew)
    go_enter Tryz.func108, Tryz.ntmps108
    go_wp2
    go_region_with (go_at_call 107; refine (wPut B g l [falseT] (w.heap.size + 1) 1 _ ((HW.out.alloc _).alloc _).drew.here (HKF.out _) rfl (by decide) HBD.out).mono ?_; rintro e w2 hp; have hp2 := ((HW.out.alloc _).alloc _).drew.step hp; obtain rfl := hp.1)
    all_goals
      go_wp2
      go_end0
      exact hp2.post
  · rw [if_pos rfl]
    replace HBD : Hid (l.length + [trueT].flatten.length ≤ 70368744177664) := Lib.hid (by have := HBD.out; simp [trueT]; omega)
    have HKF := Lib.hid (fun (o : Obj) => show Blk ((w.alloc o).alloc (.cells #[.string ⟨#[116, 114, 117, 101]⟩] 9)).drew (w.heap.size + 1) 9 (strV [trueT]).toArray from by
      have h := Blk.new (w.alloc o) 9 #[.string ⟨#[116, 114, 117, 101]⟩]
      rw [World.size_alloc] at h; exact h.drew)
    go_enter Tryz.func108, Tryz.ntmps108
    go_wp2
    go_region_with (go_at_call 107; refine (wPut B g l [trueT] (w.heap.size + 1) 1 _ ((HW.out.alloc _).alloc _).drew.here (HKF.out _) rfl (by decide) HBD.out).mono ?_; rintro e w2 hp; have hp2 := ((HW.out.alloc _).alloc _).drew.step hp; obtain rfl := hp.1)
    all_goals
      go_wp2
      go_end0
      exact hp2.post
set_option maxRecDepth 100000 in
set_option maxHeartbeats 4000000 in
/-- what is ahead of a member: its key, and a colon -/
theorem wMember (B g bw bv : Nat) (l : List UInt8) (k n : Int) (s : ByteArray) (A : Option Addr) (nk ca : Nat) (b o ny cb i : Nat) (key : List UInt8) (w : World) (hw : WS B g l w w) (hx : Bxs w g bw bv k n s A nk ca (some ⟨b, o, none⟩) ny cb) (hi : i < ny) (hc : w.cell? ⟨b, o + i, none⟩ = some (.string ⟨key.toArray⟩)) (hbl : b < B)
    (ht : txtOk key = true) (hs : key.length ≤ 4194304) (hb : l.length + ((quoT key).length + 1) ≤ 70368744177664) :
    Calls Tryz.prog 117 #[.int .i64 i, .pointer (some ⟨bw, 0, none⟩), .pointer (some ⟨bv, 0, none⟩)] w (WPost B g (l ++ (quoT key ++ [58])) (.returned (.tuple #[])) w) := by
  have HQ := Lib.hid (wQuoted B g l key w.drew hw.drew.here ht hs (by omega))
  have HW := Lib.hid hw
  have HBX := Lib.hid hx
  have HBD := Lib.hid hb
  obtain ⟨c1, f1, l1⟩ := hx.pw.rules
  obtain ⟨c2, f2, l2⟩ := hx.pv.rules
  have hbl2 : b < w.heap.size := Nat.lt_of_lt_of_le hbl hw.2.2.2.2.2
  clear hw hx hb ht hs
  go_enter Tryz.func117, Tryz.ntmps117
  go_wp2
  go_region_with (go_at_call 112; refine HQ.out.mono ?_; rintro e w2 hp; have hp2 := HW.out.drew.step hp; have hx2 := HBX.out.drew.keep HW.out.drew.1 hp.2.2.2; obtain rfl := hp.1)
  all_goals
    have HW2 := Lib.hid hp2
    have HX2 := Lib.hid hx2
    obtain ⟨c3, f3, l3⟩ := hx2.pw.rules
    clear hp hp2 hx2
    go_wp2_with fail
    with_reducible refine (wPut1 B g (l ++ quoT key) [58] _ _ w w2 HW2.out rfl ?ht ?hl).mono ?_
    case ht => rfl
    case hl => have := HBD.out; simp; omega
    rintro e w3 ⟨rfl, hp3, _⟩
    have HX3 := Lib.hid hp3
    clear hp3
    go_wp2
    go_end0
    have h := HX3.out.post (r := .returned (.tuple #[]))
    rw [List.append_assoc] at h
    exact h
end Go.Proofs.YtgolomgmnanbpaaGreatDoor
