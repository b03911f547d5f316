import Derived.Test.YtgolomgmnanbpaaGreatDoorX10
import Derived.Test.YtgolomgmnanbpaaGreatDoorX04
import Derived.Test.YtgolomgmnanbpaaGreatDoorX03
import Derived.Test.YtgolomgmnanbpaaGreatDoorX07
import Derived.Test.YtgolomgmnanbpaaGreatDoorX09
import Derived.Test.YtgolomgmnanbpaaGreatDoorX08
namespace Go.Proofs.YtgolomgmnanbpaaGreatDoor
set_option linter.unusedVariables false
set_option linter.unusedSimpArgs false
open Go.RowKit
attribute [local go_sem] run_index_arr run_part_agg run_part_one run_field_agg
def TwoG (w : World) (t : TypeId) (cs cs' : Array Value) (wr : World) : Prop := Blk wr w.heap.size t cs ∧ Blk wr (w.heap.size + 1) t cs' ∧ Grw w wr
theorem TwoG.new (w : World) (t : TypeId) (cs cs' : Array Value) : TwoG w t cs cs' ((w.alloc (.cells cs t)).alloc (.cells cs' t)) := by
  refine ⟨(Blk.new w t cs).alloc _, ?_, ((Grw.refl w).alloc _).alloc _⟩
  have := Blk.new (w.alloc (.cells cs t)) t cs'
  rw [World.size_alloc] at this; exact this
theorem TwoG.keep {w wr wx : World} {t : TypeId} {cs cs' : Array Value} (h : TwoG w t cs cs' wr) (hb : Grw wr wx) : TwoG w t cs cs' wx := ⟨h.1.keep hb.1, h.2.1.keep hb.1, h.2.2.trans hb⟩
theorem TwoG.drew {w wr : World} {t : TypeId} {cs cs' : Array Value} (h : TwoG w t cs cs' wr) : TwoG w t cs cs' wr.drew := ⟨h.1.drew, h.2.1.drew, h.2.2.drew⟩
theorem u64_at {n nq p q : Int} (hn : iw n) (hq : iw nq) (h : nq ≤ n) (hp : IntKind.u64.wrap n = p) (hq2 : IntKind.u64.wrap nq = q) : IntKind.u64.wrap (p - q) = n - nq := by
  unfold iw at hn hq
  subst hp hq2
  simp [IntKind.wrap, IntKind.bits, IntKind.signed]
  omega
set_option maxRecDepth 100000 in
set_option maxHeartbeats 4000000 in
theorem cCompare_all : ∀ (N : Nat) (a b : JV), nodesJ a ≤ N → ∀ (d d' : Nat) (cs cs' : List Value) (F F' : Nat → Prop) (w : World), VR w F cs a → VR w F' cs' b → goodJ d a = true → goodJ d' b = true → Came a → Came b →
    Calls Tryz.prog 192 #[.agg cs.toArray, .agg cs'.toArray] w (CmpPost (cmpJ a b) w)
  | 0, v, _, h, _, _, _, _, _, _, _, _, _, _, _, _, _ => by have := nodesJ_pos v; omega
  | N + 1, .mk k n s kids keys, .mk kq nq sq kidsq keysq, hN, d, d', cs, cs', F, F', w, hv, hv', hR, hR', hC, hC' => by
    have ih := cCompare_all N
    obtain ⟨hal, hdd, hrk⟩ := goodJ_out hR
    obtain ⟨hal', hdd', hrk'⟩ := goodJ_out hR'
    unfold nodesJ at hN
    obtain ⟨_, hin, hsl, hkl, hyl, _, hck⟩ := hC.out
    obtain ⟨_, hinq, hsl', hkl', hyl', _, hck'⟩ := hC'.out
    have hk6 := goodA_kind hal
    have hk6' := goodA_kind hal'
    have HRA := Lib.hid (fun W (h : Grw w W) => cRank_any cs k n s kids keys F W (hv.keep (KeepF.of_below h.1)) hk6)
    have HRB := Lib.hid (fun W (h : Grw w W) => cRank_any cs' kq nq sq kidsq keysq F' W (hv'.keep (KeepF.of_below h.1)) hk6')
    obtain ⟨A, B, ca, cb, css, rfl, h1, h2, h3, h4, h5, h6, h7⟩ := hv.out
    obtain ⟨Aq, Bq, caq, cbq, cssq, rfl, h1q, h2q, h3q, h4q, h5q, h6q, h7q⟩ := hv'.out
    obtain ⟨ra, hra⟩ : ∃ ra, rankJ (.mk k n s kids keys) = ra := ⟨_, rfl⟩
    obtain ⟨rb, hrb⟩ : ∃ rb, rankJ (.mk kq nq sq kidsq keysq) = rb := ⟨_, rfl⟩
    have hrab : 0 ≤ ra ∧ ra ≤ 6 := by have := rank_of (n := n) (s := s) (kids := kids) (keys := keys) hk6; omega
    have hrbb : 0 ≤ rb ∧ rb ≤ 6 := by have := rank_of (n := nq) (s := sq) (kids := kidsq) (keys := keysq) hk6'; omega
    have hcj : cmpJ (.mk k n s kids keys) (.mk kq nq sq kidsq keysq) = (if rankJ (.mk k n s kids keys) ≠ rankJ (.mk kq nq sq kidsq keysq) then sgnI (rankJ (.mk k n s kids keys) - rankJ (.mk kq nq sq kidsq keysq)) else if k = 3 then cmpN n nq else if k = 4 then cmpB s sq else cmpL (decide (k = 6)) kids keys kidsq keysq) := by rw [cmpJ]; rfl
    rw [hra, hrb] at hcj
    rw [hra] at HRA
    rw [hrb] at HRB
    have HSG := Lib.hid (fun n W => cSign_any n W)
    have HKEY := Lib.hid (show kq = k → k = 6 → keys.length = kids.length ∧ keysq.length = kidsq.length from fun e h => ⟨(keyed hal).1 h, (keyed hal').1 (e.trans h)⟩)
    have HKK := Lib.hid (fun (hkk : kq = k) W (h : Grw w W) => cKids_any (k := k) (kq := kq) (n := n) (nq := nq) (s := s) (sq := sq) (ca := ca) (cb := cb) (caq := caq) (cbq := cbq) W (h1.keep (KeepF.of_below h.1)) (h6.keep (KeepF.of_below h.1)) (h7.keep (KeepF.of_below h.1)) (h1q.keep (KeepF.of_below h.1)) (h6q.keep (KeepF.of_below h.1)) (h7q.keep (KeepF.of_below h.1)) h2 h3 h2q h3q hkl hyl hkl' hyl' (HKEY.out hkk)
      (fun x hx y hy W2 csx csy Fx Fy hvx hvy => by
        obtain ⟨i, hi⟩ := List.mem_iff_getElem?.1 hx
        obtain ⟨hn1, hn2⟩ := nodesL_at hi
        exact ih x y (by omega) (d - 1) (d' - 1) csx csy Fx Fy W2 hvx hvy (goodL_iff.1 hrk x hx) (goodL_iff.1 hrk' y hy) (hck x hx) (hck' y hy)))
    have HCJ := Lib.hid hcj
    obtain ⟨R, hRR⟩ : ∃ R, cmpJ (.mk k n s kids keys) (.mk kq nq sq kidsq keysq) = R := ⟨_, rfl⟩
    rw [hRR] at HCJ ⊢
    obtain ⟨nk, hnk⟩ : ∃ nk, kids.length = nk := ⟨_, rfl⟩
    obtain ⟨ny, hny⟩ : ∃ ny, keys.length = ny := ⟨_, rfl⟩
    obtain ⟨nkq, hnkq⟩ : ∃ nkq, kidsq.length = nkq := ⟨_, rfl⟩
    obtain ⟨nyq, hnyq⟩ : ∃ nyq, keysq.length = nyq := ⟨_, rfl⟩
    rw [hnk, hny] at HRA
    rw [hnkq, hnyq] at HRB
    rw [hnk, hny, hnkq, hnyq] at HKK ⊢
    have HTB := Lib.hid (TwoG.new w 25 #[.int .i64 k, .int .i64 n, .string ⟨s.toArray⟩, .slice A nk ca, .slice B ny cb] #[.int .i64 kq, .int .i64 nq, .string ⟨sq.toArray⟩, .slice Aq nkq caq, .slice Bq nyq cbq])
    have HSAME := Lib.hid (fun e => rank_same hal hal' (hra.trans (Eq.trans e hrb.symm)))
    clear hv hv' hcj hRR hal hal' hrk hrk' hR hR' hC hC' hck hck' h1 h1q h2 h2q h3 h3q h4 h4q h5 h5q h6 h6q h7 h7q hra hrb hnk hny hnkq hnyq ih HKEY hdd hdd'
    have y1 : w.heap.size ≠ w.heap.size + 1 := by omega
    have y2 : w.heap.size + 1 ≠ w.heap.size := by omega
    by_cases hrr : ra = rb
    case neg =>
      have HR := Lib.hid (show R = sgnI (ra - rb) by rw [HCJ.out, if_pos hrr])
      have hd1 : ((ra - rb) == 0) = false := by simp; omega
      have hd2 : ((ra - rb) != 0) = true := by simp; omega
      obtain ⟨dd, hdd⟩ : ∃ dd, ra - rb = dd := ⟨_, rfl⟩
      rw [hdd] at HR hd1 hd2
      have HDD := Lib.hid hdd
      have hdr : -6 ≤ dd ∧ dd ≤ 6 := by omega
      have hwd : IntKind.i64.wrap dd = dd := by rw [IntKind.wrap_i64]; omega
      go_enter Tryz.func192, Tryz.ntmps192
      go_wp2
      refine wp_region_held_drew (S := fun w' => TwoG w 25 #[.int .i64 k, .int .i64 n, .string ⟨s.toArray⟩, .slice A nk ca, .slice B ny cb] #[.int .i64 kq, .int .i64 nq, .string ⟨sq.toArray⟩, .slice Aq nkq caq, .slice Bq nyq cbq] w') (by kernel_rfl) (by exact HTB.out.drew) (fun hHeld => ?_)
      refine wpAnyH_take (i := 0) (oi := ⟨some 6, _, _, _, _, _⟩) (v := .agg #[.int .i64 k, .int .i64 n, .string ⟨s.toArray⟩, .slice A nk ca, .slice B ny cb]) rfl (by kernel_rfl) (by kernel_rfl) (by kernel_rfl) (fun _ _ _ h => h) (Or.inl ⟨by kernel_rfl, ?_⟩) (by assumption) ?_
      · intro W hSw; obtain ⟨⟨c1, f1, l1⟩, ⟨c2, f2, l2⟩⟩ := And.intro hSw.1.rules hSw.2.1.rules; go_simp
      try simp only [Act.put, List.setIfInBounds_toArray, List.set_cons_zero, List.set_cons_succ]
      refine wpAnyH_take (i := 2) (oi := ⟨some 8, _, _, _, _, _⟩) (v := .agg #[.int .i64 kq, .int .i64 nq, .string ⟨sq.toArray⟩, .slice Aq nkq caq, .slice Bq nyq cbq]) rfl (by kernel_rfl) (by kernel_rfl) (by kernel_rfl) (fun _ _ _ h => h) (Or.inl ⟨by kernel_rfl, ?_⟩) (by assumption) ?_
      · intro W hSw; obtain ⟨⟨c1, f1, l1⟩, ⟨c2, f2, l2⟩⟩ := And.intro hSw.1.rules hSw.2.1.rules; go_simp
      try simp only [Act.put, List.setIfInBounds_toArray, List.set_cons_zero, List.set_cons_succ]
      refine wpAnyH_ready (rs := [1]) (by kernel_rfl) (by simp) ?_
      refine AllReadyH.cons (o := ⟨some 7, _, _, _, _, _⟩) rfl (fun K hK => ?_) AllReadyH.nil
      go_simp
      refine (HRA.out _ HTB.out.drew.2.2).mono ?_
      rintro e w2 ⟨rfl, hb2⟩
      have ht2 := HTB.out.drew.keep hb2
      refine hK.out _ _ (ht2) (fun hHeld2 => ?_)
      clear hK K hHeld
      try simp only [Act.put, List.setIfInBounds_toArray, List.set_cons_zero, List.set_cons_succ]
      refine wpAnyH_ready (rs := [3]) (by kernel_rfl) (by simp) ?_
      refine AllReadyH.cons (o := ⟨some 9, _, _, _, _, _⟩) rfl (fun K hK => ?_) AllReadyH.nil
      go_simp
      refine (HRB.out _ ht2.2.2).mono ?_
      rintro e w3 ⟨rfl, hb3⟩
      have ht3 := ht2.keep hb3
      refine hK.out _ _ (ht3) (fun hHeld2 => ?_)
      clear hK K
      try simp only [Act.put, List.setIfInBounds_toArray, List.set_cons_zero, List.set_cons_succ]
      refine wpAnyH_take (i := 4) (oi := ⟨some 10, _, _, _, _, _⟩) (v := .int .i64 dd) rfl (by kernel_rfl) (by kernel_rfl) (by kernel_rfl) (fun _ _ _ h => h) (Or.inl ⟨by kernel_rfl, ?_⟩) (by assumption) ?_
      · intro W hSw; obtain ⟨⟨c1, f1, l1⟩, ⟨c2, f2, l2⟩⟩ := And.intro hSw.1.rules hSw.2.1.rules; go_simp
      try simp only [Act.put, List.setIfInBounds_toArray, List.set_cons_zero, List.set_cons_succ]
      refine wpAnyH_take (i := 5) (oi := ⟨some 5, _, _, _, _, _⟩) (v := .int .i64 dd) rfl (by kernel_rfl) (by kernel_rfl) (by kernel_rfl) (fun _ _ _ h => h) (Or.inl ⟨by kernel_rfl, ?_⟩) (by assumption) ?_
      · intro W hSw; obtain ⟨⟨c1, f1, l1⟩, ⟨c2, f2, l2⟩⟩ := And.intro hSw.1.rules hSw.2.1.rules; go_simp
      try simp only [Act.put, List.setIfInBounds_toArray, List.set_cons_zero, List.set_cons_succ]
      refine wpAnyH_done (by kernel_rfl) ?_ _
      have HT3 := Lib.hid ht3
      clear hb2 hb3 ht2 ht3
      obtain ⟨c1, f1, l1⟩ := HT3.out.1.rules
      obtain ⟨c2, f2, l2⟩ := HT3.out.2.1.rules
      go_wp2_with fail
      refine (HSG.out dd _).mono ?_
      rintro e w4 ⟨rfl, rfl⟩
      go_wp2
      go_ret
      exact ⟨by rw [HR.out]; rfl, HT3.out.2.2⟩
    obtain ⟨ek, -, -⟩ := HSAME.out hrr
    clear HSAME
    subst hrr ek
    have HCJ2 := Lib.hid (show R = if k = 3 then cmpN n nq else if k = 4 then cmpB s sq else cmpL (decide (k = 6)) kids keys kidsq keysq by rw [HCJ.out, if_neg (show ¬ (ra ≠ ra) from fun h => h rfl)])
    clear HCJ
    have hd0 : ra - ra = 0 := by omega
    have hwd0 : IntKind.i64.wrap 0 = 0 := by decide
    by_cases k3 : k = 3
    · subst k3
      have HR := Lib.hid (show R = cmpN n nq by rw [HCJ2.out, if_pos rfl])
      by_cases hlt : n < nq
      · have HRV := Lib.hid (show R = -1 by rw [HR.out]; unfold cmpN sgnI; rw [if_pos (by omega)])
        go_enter Tryz.func192, Tryz.ntmps192
        go_wp2
        refine wp_region_held_drew (S := fun w' => TwoG w 25 #[.int .i64 3, .int .i64 n, .string ⟨s.toArray⟩, .slice A nk ca, .slice B ny cb] #[.int .i64 3, .int .i64 nq, .string ⟨sq.toArray⟩, .slice Aq nkq caq, .slice Bq nyq cbq] w') (by kernel_rfl) (by exact HTB.out.drew) (fun hHeld => ?_)
        refine wpAnyH_take (i := 0) (oi := ⟨some 6, _, _, _, _, _⟩) (v := .agg #[.int .i64 3, .int .i64 n, .string ⟨s.toArray⟩, .slice A nk ca, .slice B ny cb]) rfl (by kernel_rfl) (by kernel_rfl) (by kernel_rfl) (fun _ _ _ h => h) (Or.inl ⟨by kernel_rfl, ?_⟩) (by assumption) ?_
        · intro W hSw; obtain ⟨⟨c1, f1, l1⟩, ⟨c2, f2, l2⟩⟩ := And.intro hSw.1.rules hSw.2.1.rules; go_simp
        try simp only [Act.put, List.setIfInBounds_toArray, List.set_cons_zero, List.set_cons_succ]
        refine wpAnyH_take (i := 2) (oi := ⟨some 8, _, _, _, _, _⟩) (v := .agg #[.int .i64 3, .int .i64 nq, .string ⟨sq.toArray⟩, .slice Aq nkq caq, .slice Bq nyq cbq]) rfl (by kernel_rfl) (by kernel_rfl) (by kernel_rfl) (fun _ _ _ h => h) (Or.inl ⟨by kernel_rfl, ?_⟩) (by assumption) ?_
        · intro W hSw; obtain ⟨⟨c1, f1, l1⟩, ⟨c2, f2, l2⟩⟩ := And.intro hSw.1.rules hSw.2.1.rules; go_simp
        try simp only [Act.put, List.setIfInBounds_toArray, List.set_cons_zero, List.set_cons_succ]
        refine wpAnyH_ready (rs := [1]) (by kernel_rfl) (by simp) ?_
        refine AllReadyH.cons (o := ⟨some 7, _, _, _, _, _⟩) rfl (fun K hK => ?_) AllReadyH.nil
        go_simp
        refine (HRA.out _ HTB.out.drew.2.2).mono ?_
        rintro e w2 ⟨rfl, hb2⟩
        have ht2 := HTB.out.drew.keep hb2
        refine hK.out _ _ (ht2) (fun hHeld2 => ?_)
        clear hK K hHeld
        try simp only [Act.put, List.setIfInBounds_toArray, List.set_cons_zero, List.set_cons_succ]
        refine wpAnyH_ready (rs := [3]) (by kernel_rfl) (by simp) ?_
        refine AllReadyH.cons (o := ⟨some 9, _, _, _, _, _⟩) rfl (fun K hK => ?_) AllReadyH.nil
        go_simp
        refine (HRB.out _ ht2.2.2).mono ?_
        rintro e w3 ⟨rfl, hb3⟩
        have ht3 := ht2.keep hb3
        refine hK.out _ _ (ht3) (fun hHeld2 => ?_)
        clear hK K
        try simp only [Act.put, List.setIfInBounds_toArray, List.set_cons_zero, List.set_cons_succ]
        refine wpAnyH_take (i := 4) (oi := ⟨some 10, _, _, _, _, _⟩) (v := .int .i64 0) rfl (by kernel_rfl) (by kernel_rfl) (by kernel_rfl) (fun _ _ _ h => h) (Or.inl ⟨by kernel_rfl, ?_⟩) (by assumption) ?_
        · intro W hSw; obtain ⟨⟨c1, f1, l1⟩, ⟨c2, f2, l2⟩⟩ := And.intro hSw.1.rules hSw.2.1.rules; go_simp
        try simp only [Act.put, List.setIfInBounds_toArray, List.set_cons_zero, List.set_cons_succ]
        refine wpAnyH_take (i := 5) (oi := ⟨some 5, _, _, _, _, _⟩) (v := .int .i64 0) rfl (by kernel_rfl) (by kernel_rfl) (by kernel_rfl) (fun _ _ _ h => h) (Or.inl ⟨by kernel_rfl, ?_⟩) (by assumption) ?_
        · intro W hSw; obtain ⟨⟨c1, f1, l1⟩, ⟨c2, f2, l2⟩⟩ := And.intro hSw.1.rules hSw.2.1.rules; go_simp
        try simp only [Act.put, List.setIfInBounds_toArray, List.set_cons_zero, List.set_cons_succ]
        refine wpAnyH_done (by kernel_rfl) ?_ _
        have HT3 := Lib.hid ht3
        clear hb2 hb3 ht2 ht3
        obtain ⟨c1, f1, l1⟩ := HT3.out.1.rules
        obtain ⟨c2, f2, l2⟩ := HT3.out.2.1.rules
        go_wp2
        go_ret
        exact ⟨by rw [HRV.out]; rfl, HT3.out.2.2⟩
      · obtain ⟨p, hp⟩ : ∃ p, IntKind.u64.wrap n = p := ⟨_, rfl⟩
        obtain ⟨q, hq⟩ : ∃ q, IntKind.u64.wrap nq = q := ⟨_, rfl⟩
        have hpq := u64_at hin hinq (by omega) hp hq
        obtain ⟨z, hz⟩ : ∃ z, n - nq = z := ⟨_, rfl⟩
        rw [hz] at hpq
        have HRV := Lib.hid (show R = sgnI z by rw [HR.out]; unfold cmpN; rw [hz])
        unfold iw at hin hinq
        have hz0 : z = 0 ∨ 1 ≤ z := by omega
        clear hz
        rcases hz0 with rfl | hz1
        · go_enter Tryz.func192, Tryz.ntmps192
          go_wp2
          refine wp_region_held_drew (S := fun w' => TwoG w 25 #[.int .i64 3, .int .i64 n, .string ⟨s.toArray⟩, .slice A nk ca, .slice B ny cb] #[.int .i64 3, .int .i64 nq, .string ⟨sq.toArray⟩, .slice Aq nkq caq, .slice Bq nyq cbq] w') (by kernel_rfl) (by exact HTB.out.drew) (fun hHeld => ?_)
          refine wpAnyH_take (i := 0) (oi := ⟨some 6, _, _, _, _, _⟩) (v := .agg #[.int .i64 3, .int .i64 n, .string ⟨s.toArray⟩, .slice A nk ca, .slice B ny cb]) rfl (by kernel_rfl) (by kernel_rfl) (by kernel_rfl) (fun _ _ _ h => h) (Or.inl ⟨by kernel_rfl, ?_⟩) (by assumption) ?_
          · intro W hSw; obtain ⟨⟨c1, f1, l1⟩, ⟨c2, f2, l2⟩⟩ := And.intro hSw.1.rules hSw.2.1.rules; go_simp
          try simp only [Act.put, List.setIfInBounds_toArray, List.set_cons_zero, List.set_cons_succ]
          refine wpAnyH_take (i := 2) (oi := ⟨some 8, _, _, _, _, _⟩) (v := .agg #[.int .i64 3, .int .i64 nq, .string ⟨sq.toArray⟩, .slice Aq nkq caq, .slice Bq nyq cbq]) rfl (by kernel_rfl) (by kernel_rfl) (by kernel_rfl) (fun _ _ _ h => h) (Or.inl ⟨by kernel_rfl, ?_⟩) (by assumption) ?_
          · intro W hSw; obtain ⟨⟨c1, f1, l1⟩, ⟨c2, f2, l2⟩⟩ := And.intro hSw.1.rules hSw.2.1.rules; go_simp
          try simp only [Act.put, List.setIfInBounds_toArray, List.set_cons_zero, List.set_cons_succ]
          refine wpAnyH_ready (rs := [1]) (by kernel_rfl) (by simp) ?_
          refine AllReadyH.cons (o := ⟨some 7, _, _, _, _, _⟩) rfl (fun K hK => ?_) AllReadyH.nil
          go_simp
          refine (HRA.out _ HTB.out.drew.2.2).mono ?_
          rintro e w2 ⟨rfl, hb2⟩
          have ht2 := HTB.out.drew.keep hb2
          refine hK.out _ _ (ht2) (fun hHeld2 => ?_)
          clear hK K hHeld
          try simp only [Act.put, List.setIfInBounds_toArray, List.set_cons_zero, List.set_cons_succ]
          refine wpAnyH_ready (rs := [3]) (by kernel_rfl) (by simp) ?_
          refine AllReadyH.cons (o := ⟨some 9, _, _, _, _, _⟩) rfl (fun K hK => ?_) AllReadyH.nil
          go_simp
          refine (HRB.out _ ht2.2.2).mono ?_
          rintro e w3 ⟨rfl, hb3⟩
          have ht3 := ht2.keep hb3
          refine hK.out _ _ (ht3) (fun hHeld2 => ?_)
          clear hK K
          try simp only [Act.put, List.setIfInBounds_toArray, List.set_cons_zero, List.set_cons_succ]
          refine wpAnyH_take (i := 4) (oi := ⟨some 10, _, _, _, _, _⟩) (v := .int .i64 0) rfl (by kernel_rfl) (by kernel_rfl) (by kernel_rfl) (fun _ _ _ h => h) (Or.inl ⟨by kernel_rfl, ?_⟩) (by assumption) ?_
          · intro W hSw; obtain ⟨⟨c1, f1, l1⟩, ⟨c2, f2, l2⟩⟩ := And.intro hSw.1.rules hSw.2.1.rules; go_simp
          try simp only [Act.put, List.setIfInBounds_toArray, List.set_cons_zero, List.set_cons_succ]
          refine wpAnyH_take (i := 5) (oi := ⟨some 5, _, _, _, _, _⟩) (v := .int .i64 0) rfl (by kernel_rfl) (by kernel_rfl) (by kernel_rfl) (fun _ _ _ h => h) (Or.inl ⟨by kernel_rfl, ?_⟩) (by assumption) ?_
          · intro W hSw; obtain ⟨⟨c1, f1, l1⟩, ⟨c2, f2, l2⟩⟩ := And.intro hSw.1.rules hSw.2.1.rules; go_simp
          try simp only [Act.put, List.setIfInBounds_toArray, List.set_cons_zero, List.set_cons_succ]
          refine wpAnyH_done (by kernel_rfl) ?_ _
          have HT3 := Lib.hid ht3
          clear hb2 hb3 ht2 ht3
          obtain ⟨c1, f1, l1⟩ := HT3.out.1.rules
          obtain ⟨c2, f2, l2⟩ := HT3.out.2.1.rules
          go_wp2_with fail
          refine (HSG.out 0 _).mono ?_
          rintro e w4 ⟨rfl, rfl⟩
          go_wp2
          go_ret
          exact ⟨by rw [HRV.out]; rfl, HT3.out.2.2⟩
        · have HRW := Lib.hid (show R = 1 by rw [HRV.out]; unfold sgnI; rw [if_neg (by omega), if_pos (by omega)])
          by_cases hz2 : z = 1
          · subst hz2
            go_enter Tryz.func192, Tryz.ntmps192
            go_wp2
            refine wp_region_held_drew (S := fun w' => TwoG w 25 #[.int .i64 3, .int .i64 n, .string ⟨s.toArray⟩, .slice A nk ca, .slice B ny cb] #[.int .i64 3, .int .i64 nq, .string ⟨sq.toArray⟩, .slice Aq nkq caq, .slice Bq nyq cbq] w') (by kernel_rfl) (by exact HTB.out.drew) (fun hHeld => ?_)
            refine wpAnyH_take (i := 0) (oi := ⟨some 6, _, _, _, _, _⟩) (v := .agg #[.int .i64 3, .int .i64 n, .string ⟨s.toArray⟩, .slice A nk ca, .slice B ny cb]) rfl (by kernel_rfl) (by kernel_rfl) (by kernel_rfl) (fun _ _ _ h => h) (Or.inl ⟨by kernel_rfl, ?_⟩) (by assumption) ?_
            · intro W hSw; obtain ⟨⟨c1, f1, l1⟩, ⟨c2, f2, l2⟩⟩ := And.intro hSw.1.rules hSw.2.1.rules; go_simp
            try simp only [Act.put, List.setIfInBounds_toArray, List.set_cons_zero, List.set_cons_succ]
            refine wpAnyH_take (i := 2) (oi := ⟨some 8, _, _, _, _, _⟩) (v := .agg #[.int .i64 3, .int .i64 nq, .string ⟨sq.toArray⟩, .slice Aq nkq caq, .slice Bq nyq cbq]) rfl (by kernel_rfl) (by kernel_rfl) (by kernel_rfl) (fun _ _ _ h => h) (Or.inl ⟨by kernel_rfl, ?_⟩) (by assumption) ?_
            · intro W hSw; obtain ⟨⟨c1, f1, l1⟩, ⟨c2, f2, l2⟩⟩ := And.intro hSw.1.rules hSw.2.1.rules; go_simp
            try simp only [Act.put, List.setIfInBounds_toArray, List.set_cons_zero, List.set_cons_succ]
            refine wpAnyH_ready (rs := [1]) (by kernel_rfl) (by simp) ?_
            refine AllReadyH.cons (o := ⟨some 7, _, _, _, _, _⟩) rfl (fun K hK => ?_) AllReadyH.nil
            go_simp
            refine (HRA.out _ HTB.out.drew.2.2).mono ?_
            rintro e w2 ⟨rfl, hb2⟩
            have ht2 := HTB.out.drew.keep hb2
            refine hK.out _ _ (ht2) (fun hHeld2 => ?_)
            clear hK K hHeld
            try simp only [Act.put, List.setIfInBounds_toArray, List.set_cons_zero, List.set_cons_succ]
            refine wpAnyH_ready (rs := [3]) (by kernel_rfl) (by simp) ?_
            refine AllReadyH.cons (o := ⟨some 9, _, _, _, _, _⟩) rfl (fun K hK => ?_) AllReadyH.nil
            go_simp
            refine (HRB.out _ ht2.2.2).mono ?_
            rintro e w3 ⟨rfl, hb3⟩
            have ht3 := ht2.keep hb3
            refine hK.out _ _ (ht3) (fun hHeld2 => ?_)
            clear hK K
            try simp only [Act.put, List.setIfInBounds_toArray, List.set_cons_zero, List.set_cons_succ]
            refine wpAnyH_take (i := 4) (oi := ⟨some 10, _, _, _, _, _⟩) (v := .int .i64 0) rfl (by kernel_rfl) (by kernel_rfl) (by kernel_rfl) (fun _ _ _ h => h) (Or.inl ⟨by kernel_rfl, ?_⟩) (by assumption) ?_
            · intro W hSw; obtain ⟨⟨c1, f1, l1⟩, ⟨c2, f2, l2⟩⟩ := And.intro hSw.1.rules hSw.2.1.rules; go_simp
            try simp only [Act.put, List.setIfInBounds_toArray, List.set_cons_zero, List.set_cons_succ]
            refine wpAnyH_take (i := 5) (oi := ⟨some 5, _, _, _, _, _⟩) (v := .int .i64 0) rfl (by kernel_rfl) (by kernel_rfl) (by kernel_rfl) (fun _ _ _ h => h) (Or.inl ⟨by kernel_rfl, ?_⟩) (by assumption) ?_
            · intro W hSw; obtain ⟨⟨c1, f1, l1⟩, ⟨c2, f2, l2⟩⟩ := And.intro hSw.1.rules hSw.2.1.rules; go_simp
            try simp only [Act.put, List.setIfInBounds_toArray, List.set_cons_zero, List.set_cons_succ]
            refine wpAnyH_done (by kernel_rfl) ?_ _
            have HT3 := Lib.hid ht3
            clear hb2 hb3 ht2 ht3
            obtain ⟨c1, f1, l1⟩ := HT3.out.1.rules
            obtain ⟨c2, f2, l2⟩ := HT3.out.2.1.rules
            go_wp2_with fail
            refine (HSG.out 1 _).mono ?_
            rintro e w4 ⟨rfl, rfl⟩
            go_wp2
            go_ret
            exact ⟨by rw [HRW.out]; rfl, HT3.out.2.2⟩
          · have hz3 : ¬ z ≤ 1 := by omega
            have hz4 : 1 < z := by omega
            go_enter Tryz.func192, Tryz.ntmps192
            go_wp2
            refine wp_region_held_drew (S := fun w' => TwoG w 25 #[.int .i64 3, .int .i64 n, .string ⟨s.toArray⟩, .slice A nk ca, .slice B ny cb] #[.int .i64 3, .int .i64 nq, .string ⟨sq.toArray⟩, .slice Aq nkq caq, .slice Bq nyq cbq] w') (by kernel_rfl) (by exact HTB.out.drew) (fun hHeld => ?_)
            refine wpAnyH_take (i := 0) (oi := ⟨some 6, _, _, _, _, _⟩) (v := .agg #[.int .i64 3, .int .i64 n, .string ⟨s.toArray⟩, .slice A nk ca, .slice B ny cb]) rfl (by kernel_rfl) (by kernel_rfl) (by kernel_rfl) (fun _ _ _ h => h) (Or.inl ⟨by kernel_rfl, ?_⟩) (by assumption) ?_
            · intro W hSw; obtain ⟨⟨c1, f1, l1⟩, ⟨c2, f2, l2⟩⟩ := And.intro hSw.1.rules hSw.2.1.rules; go_simp
            try simp only [Act.put, List.setIfInBounds_toArray, List.set_cons_zero, List.set_cons_succ]
            refine wpAnyH_take (i := 2) (oi := ⟨some 8, _, _, _, _, _⟩) (v := .agg #[.int .i64 3, .int .i64 nq, .string ⟨sq.toArray⟩, .slice Aq nkq caq, .slice Bq nyq cbq]) rfl (by kernel_rfl) (by kernel_rfl) (by kernel_rfl) (fun _ _ _ h => h) (Or.inl ⟨by kernel_rfl, ?_⟩) (by assumption) ?_
            · intro W hSw; obtain ⟨⟨c1, f1, l1⟩, ⟨c2, f2, l2⟩⟩ := And.intro hSw.1.rules hSw.2.1.rules; go_simp
            try simp only [Act.put, List.setIfInBounds_toArray, List.set_cons_zero, List.set_cons_succ]
            refine wpAnyH_ready (rs := [1]) (by kernel_rfl) (by simp) ?_
            refine AllReadyH.cons (o := ⟨some 7, _, _, _, _, _⟩) rfl (fun K hK => ?_) AllReadyH.nil
            go_simp
            refine (HRA.out _ HTB.out.drew.2.2).mono ?_
            rintro e w2 ⟨rfl, hb2⟩
            have ht2 := HTB.out.drew.keep hb2
            refine hK.out _ _ (ht2) (fun hHeld2 => ?_)
            clear hK K hHeld
            try simp only [Act.put, List.setIfInBounds_toArray, List.set_cons_zero, List.set_cons_succ]
            refine wpAnyH_ready (rs := [3]) (by kernel_rfl) (by simp) ?_
            refine AllReadyH.cons (o := ⟨some 9, _, _, _, _, _⟩) rfl (fun K hK => ?_) AllReadyH.nil
            go_simp
            refine (HRB.out _ ht2.2.2).mono ?_
            rintro e w3 ⟨rfl, hb3⟩
            have ht3 := ht2.keep hb3
            refine hK.out _ _ (ht3) (fun hHeld2 => ?_)
            clear hK K
            try simp only [Act.put, List.setIfInBounds_toArray, List.set_cons_zero, List.set_cons_succ]
            refine wpAnyH_take (i := 4) (oi := ⟨some 10, _, _, _, _, _⟩) (v := .int .i64 0) rfl (by kernel_rfl) (by kernel_rfl) (by kernel_rfl) (fun _ _ _ h => h) (Or.inl ⟨by kernel_rfl, ?_⟩) (by assumption) ?_
            · intro W hSw; obtain ⟨⟨c1, f1, l1⟩, ⟨c2, f2, l2⟩⟩ := And.intro hSw.1.rules hSw.2.1.rules; go_simp
            try simp only [Act.put, List.setIfInBounds_toArray, List.set_cons_zero, List.set_cons_succ]
            refine wpAnyH_take (i := 5) (oi := ⟨some 5, _, _, _, _, _⟩) (v := .int .i64 0) rfl (by kernel_rfl) (by kernel_rfl) (by kernel_rfl) (fun _ _ _ h => h) (Or.inl ⟨by kernel_rfl, ?_⟩) (by assumption) ?_
            · intro W hSw; obtain ⟨⟨c1, f1, l1⟩, ⟨c2, f2, l2⟩⟩ := And.intro hSw.1.rules hSw.2.1.rules; go_simp
            try simp only [Act.put, List.setIfInBounds_toArray, List.set_cons_zero, List.set_cons_succ]
            refine wpAnyH_done (by kernel_rfl) ?_ _
            have HT3 := Lib.hid ht3
            clear hb2 hb3 ht2 ht3
            obtain ⟨c1, f1, l1⟩ := HT3.out.1.rules
            obtain ⟨c2, f2, l2⟩ := HT3.out.2.1.rules
            go_wp2_with fail
            refine (HSG.out 1 _).mono ?_
            rintro e w4 ⟨rfl, rfl⟩
            go_wp2
            go_ret
            exact ⟨by rw [HRW.out]; rfl, HT3.out.2.2⟩
    have k3b : (k == 3) = false := by simp [k3]
    by_cases k4 : k = 4
    · subst k4
      have HR := Lib.hid (show R = cmpB s sq by rw [HCJ2.out, if_neg k3, if_pos rfl])
      have HCS := Lib.hid (fun W => cmpStr_any s sq W)
      go_enter Tryz.func192, Tryz.ntmps192
      go_wp2
      refine wp_region_held_drew (S := fun w' => TwoG w 25 #[.int .i64 4, .int .i64 n, .string ⟨s.toArray⟩, .slice A nk ca, .slice B ny cb] #[.int .i64 4, .int .i64 nq, .string ⟨sq.toArray⟩, .slice Aq nkq caq, .slice Bq nyq cbq] w') (by kernel_rfl) (by exact HTB.out.drew) (fun hHeld => ?_)
      refine wpAnyH_take (i := 0) (oi := ⟨some 6, _, _, _, _, _⟩) (v := .agg #[.int .i64 4, .int .i64 n, .string ⟨s.toArray⟩, .slice A nk ca, .slice B ny cb]) rfl (by kernel_rfl) (by kernel_rfl) (by kernel_rfl) (fun _ _ _ h => h) (Or.inl ⟨by kernel_rfl, ?_⟩) (by assumption) ?_
      · intro W hSw; obtain ⟨⟨c1, f1, l1⟩, ⟨c2, f2, l2⟩⟩ := And.intro hSw.1.rules hSw.2.1.rules; go_simp
      try simp only [Act.put, List.setIfInBounds_toArray, List.set_cons_zero, List.set_cons_succ]
      refine wpAnyH_take (i := 2) (oi := ⟨some 8, _, _, _, _, _⟩) (v := .agg #[.int .i64 4, .int .i64 nq, .string ⟨sq.toArray⟩, .slice Aq nkq caq, .slice Bq nyq cbq]) rfl (by kernel_rfl) (by kernel_rfl) (by kernel_rfl) (fun _ _ _ h => h) (Or.inl ⟨by kernel_rfl, ?_⟩) (by assumption) ?_
      · intro W hSw; obtain ⟨⟨c1, f1, l1⟩, ⟨c2, f2, l2⟩⟩ := And.intro hSw.1.rules hSw.2.1.rules; go_simp
      try simp only [Act.put, List.setIfInBounds_toArray, List.set_cons_zero, List.set_cons_succ]
      refine wpAnyH_ready (rs := [1]) (by kernel_rfl) (by simp) ?_
      refine AllReadyH.cons (o := ⟨some 7, _, _, _, _, _⟩) rfl (fun K hK => ?_) AllReadyH.nil
      go_simp
      refine (HRA.out _ HTB.out.drew.2.2).mono ?_
      rintro e w2 ⟨rfl, hb2⟩
      have ht2 := HTB.out.drew.keep hb2
      refine hK.out _ _ (ht2) (fun hHeld2 => ?_)
      clear hK K hHeld
      try simp only [Act.put, List.setIfInBounds_toArray, List.set_cons_zero, List.set_cons_succ]
      refine wpAnyH_ready (rs := [3]) (by kernel_rfl) (by simp) ?_
      refine AllReadyH.cons (o := ⟨some 9, _, _, _, _, _⟩) rfl (fun K hK => ?_) AllReadyH.nil
      go_simp
      refine (HRB.out _ ht2.2.2).mono ?_
      rintro e w3 ⟨rfl, hb3⟩
      have ht3 := ht2.keep hb3
      refine hK.out _ _ (ht3) (fun hHeld2 => ?_)
      clear hK K
      try simp only [Act.put, List.setIfInBounds_toArray, List.set_cons_zero, List.set_cons_succ]
      refine wpAnyH_take (i := 4) (oi := ⟨some 10, _, _, _, _, _⟩) (v := .int .i64 0) rfl (by kernel_rfl) (by kernel_rfl) (by kernel_rfl) (fun _ _ _ h => h) (Or.inl ⟨by kernel_rfl, ?_⟩) (by assumption) ?_
      · intro W hSw; obtain ⟨⟨c1, f1, l1⟩, ⟨c2, f2, l2⟩⟩ := And.intro hSw.1.rules hSw.2.1.rules; go_simp
      try simp only [Act.put, List.setIfInBounds_toArray, List.set_cons_zero, List.set_cons_succ]
      refine wpAnyH_take (i := 5) (oi := ⟨some 5, _, _, _, _, _⟩) (v := .int .i64 0) rfl (by kernel_rfl) (by kernel_rfl) (by kernel_rfl) (fun _ _ _ h => h) (Or.inl ⟨by kernel_rfl, ?_⟩) (by assumption) ?_
      · intro W hSw; obtain ⟨⟨c1, f1, l1⟩, ⟨c2, f2, l2⟩⟩ := And.intro hSw.1.rules hSw.2.1.rules; go_simp
      try simp only [Act.put, List.setIfInBounds_toArray, List.set_cons_zero, List.set_cons_succ]
      refine wpAnyH_done (by kernel_rfl) ?_ _
      have HT3 := Lib.hid ht3
      clear hb2 hb3 ht2 ht3
      obtain ⟨c1, f1, l1⟩ := HT3.out.1.rules
      obtain ⟨c2, f2, l2⟩ := HT3.out.2.1.rules
      go_wp2_with fail
      refine (HCS.out _).mono ?_
      rintro e w4 ⟨rfl, rfl⟩
      go_wp2
      go_ret
      exact ⟨by rw [HR.out]; rfl, HT3.out.2.2⟩
    · have k4b : (k == 4) = false := by simp [k4]
      have HR := Lib.hid (show R = cmpL (decide (k = 6)) kids keys kidsq keysq by rw [HCJ2.out, if_neg k3, if_neg k4])
      have HKC := Lib.hid (HKK.out rfl)
      clear HKK
      rw [← HR.out] at HKC
      go_enter Tryz.func192, Tryz.ntmps192
      go_wp2
      refine wp_region_held_drew (S := fun w' => TwoG w 25 #[.int .i64 k, .int .i64 n, .string ⟨s.toArray⟩, .slice A nk ca, .slice B ny cb] #[.int .i64 k, .int .i64 nq, .string ⟨sq.toArray⟩, .slice Aq nkq caq, .slice Bq nyq cbq] w') (by kernel_rfl) (by exact HTB.out.drew) (fun hHeld => ?_)
      refine wpAnyH_take (i := 0) (oi := ⟨some 6, _, _, _, _, _⟩) (v := .agg #[.int .i64 k, .int .i64 n, .string ⟨s.toArray⟩, .slice A nk ca, .slice B ny cb]) rfl (by kernel_rfl) (by kernel_rfl) (by kernel_rfl) (fun _ _ _ h => h) (Or.inl ⟨by kernel_rfl, ?_⟩) (by assumption) ?_
      · intro W hSw; obtain ⟨⟨c1, f1, l1⟩, ⟨c2, f2, l2⟩⟩ := And.intro hSw.1.rules hSw.2.1.rules; go_simp
      try simp only [Act.put, List.setIfInBounds_toArray, List.set_cons_zero, List.set_cons_succ]
      refine wpAnyH_take (i := 2) (oi := ⟨some 8, _, _, _, _, _⟩) (v := .agg #[.int .i64 k, .int .i64 nq, .string ⟨sq.toArray⟩, .slice Aq nkq caq, .slice Bq nyq cbq]) rfl (by kernel_rfl) (by kernel_rfl) (by kernel_rfl) (fun _ _ _ h => h) (Or.inl ⟨by kernel_rfl, ?_⟩) (by assumption) ?_
      · intro W hSw; obtain ⟨⟨c1, f1, l1⟩, ⟨c2, f2, l2⟩⟩ := And.intro hSw.1.rules hSw.2.1.rules; go_simp
      try simp only [Act.put, List.setIfInBounds_toArray, List.set_cons_zero, List.set_cons_succ]
      refine wpAnyH_ready (rs := [1]) (by kernel_rfl) (by simp) ?_
      refine AllReadyH.cons (o := ⟨some 7, _, _, _, _, _⟩) rfl (fun K hK => ?_) AllReadyH.nil
      go_simp
      refine (HRA.out _ HTB.out.drew.2.2).mono ?_
      rintro e w2 ⟨rfl, hb2⟩
      have ht2 := HTB.out.drew.keep hb2
      refine hK.out _ _ (ht2) (fun hHeld2 => ?_)
      clear hK K hHeld
      try simp only [Act.put, List.setIfInBounds_toArray, List.set_cons_zero, List.set_cons_succ]
      refine wpAnyH_ready (rs := [3]) (by kernel_rfl) (by simp) ?_
      refine AllReadyH.cons (o := ⟨some 9, _, _, _, _, _⟩) rfl (fun K hK => ?_) AllReadyH.nil
      go_simp
      refine (HRB.out _ ht2.2.2).mono ?_
      rintro e w3 ⟨rfl, hb3⟩
      have ht3 := ht2.keep hb3
      refine hK.out _ _ (ht3) (fun hHeld2 => ?_)
      clear hK K
      try simp only [Act.put, List.setIfInBounds_toArray, List.set_cons_zero, List.set_cons_succ]
      refine wpAnyH_take (i := 4) (oi := ⟨some 10, _, _, _, _, _⟩) (v := .int .i64 0) rfl (by kernel_rfl) (by kernel_rfl) (by kernel_rfl) (fun _ _ _ h => h) (Or.inl ⟨by kernel_rfl, ?_⟩) (by assumption) ?_
      · intro W hSw; obtain ⟨⟨c1, f1, l1⟩, ⟨c2, f2, l2⟩⟩ := And.intro hSw.1.rules hSw.2.1.rules; go_simp
      try simp only [Act.put, List.setIfInBounds_toArray, List.set_cons_zero, List.set_cons_succ]
      refine wpAnyH_take (i := 5) (oi := ⟨some 5, _, _, _, _, _⟩) (v := .int .i64 0) rfl (by kernel_rfl) (by kernel_rfl) (by kernel_rfl) (fun _ _ _ h => h) (Or.inl ⟨by kernel_rfl, ?_⟩) (by assumption) ?_
      · intro W hSw; obtain ⟨⟨c1, f1, l1⟩, ⟨c2, f2, l2⟩⟩ := And.intro hSw.1.rules hSw.2.1.rules; go_simp
      try simp only [Act.put, List.setIfInBounds_toArray, List.set_cons_zero, List.set_cons_succ]
      refine wpAnyH_done (by kernel_rfl) ?_ _
      have HT3 := Lib.hid ht3
      clear hb2 hb3 ht2 ht3
      obtain ⟨c1, f1, l1⟩ := HT3.out.1.rules
      obtain ⟨c2, f2, l2⟩ := HT3.out.2.1.rules
      go_wp2_with fail
      refine (HKC.out _ HT3.out.2.2).mono ?_
      rintro e w4 ⟨rfl, hb4⟩
      have HG4 := Lib.hid (HT3.out.2.2.trans hb4)
      clear hb4
      go_wp2
      go_ret
      exact ⟨rfl, HG4.out⟩
theorem cCompare_any (a b : JV) (cs cs' : List Value) (F F' : Nat → Prop) (w : World) (h : VR w F cs a) (h' : VR w F' cs' b) (g : gd a) (g' : gd b) (c : Came a) (c' : Came b) : Calls Tryz.prog 192 #[.agg cs.toArray, .agg cs'.toArray] w (CmpPost (cmpJ a b) w) :=
  cCompare_all _ a b (Nat.le_refl _) 8 8 cs cs' F F' w h h' g.j g'.j c c'
end Go.Proofs.YtgolomgmnanbpaaGreatDoor
namespace Go.Proofs.YtgolomgmnanbpaaGreatDoor
set_option linter.unusedVariables false
set_option linter.unusedSimpArgs false
open Go.RowKit
attribute [local go_sem] run_index_arr run_part_agg run_part_one run_field_agg
def RowV (w : World) (A : Option Addr) (ca : Nat) (l : List JV) : Prop := ∃ css, VRs w TT css l ∧ l.length ≤ ca ∧ (A = none → ca = 0) ∧ RdF w TT A css.flatten
theorem RowV.bel {w w' : World} {A : Option Addr} {ca : Nat} {l : List JV} (h : RowV w A ca l) (hb : Below w.heap.size w w') : RowV w' A ca l := by
  obtain ⟨css, h1, h2, h3, h4⟩ := h
  exact ⟨css, h1.below hb, h2, h3, h4.keep (KeepF.of_below hb)⟩
theorem RowV.nil {w : World} : RowV w none 0 [] := ⟨[], VRs.nil, Nat.le_refl _, fun _ => rfl, RdF.nil⟩
set_option maxRecDepth 100000 in
set_option maxHeartbeats 4000000 in
theorem toldI (l : List JV) (A : Option Addr) (nk ca : Nat) (c0 c1 : Value) (w : World) (hG : GOK w) (hr : RowV w A ca l) (hnk : l.length = nk) (hC : ∀ x ∈ l, Came x) (hlen : nk ≤ 4194304) (Q : Ending → World → Prop)
    (hbad : (∃ x ∈ l, ¬ gd x) → ∀ W, Below w.heap.size w W → Q (.returned (.tuple #[.int .i64 0, .int .i64 140])) W)
    (hcall : (∀ x ∈ l, gd x) → ∀ W, Below w.heap.size w W → Calls Tryz.prog 191 #[c0, c1] W (fun e w' => ∃ a : Value, ∃ b : Int, e = .returned (.tuple #[a, .int .i64 b]) ∧ Q (.returned (.tuple #[a, .int .i64 b])) w')) :
    Calls Tryz.prog 190 #[.slice A nk ca, .func (.func 191) #[] #[c0, c1]] w (Q) := by
  obtain ⟨css, hr1, hr2, hr3, hr4⟩ := hr
  have HIH := Lib.hid (fun (i : Nat) (x : JV) (hx : l[i]? = some x) => kid_cellsG hr1 hr4 hx)
  have HCK := Lib.hid (fun (x : JV) (hx : x ∈ l) (W : World) (h : Below w.heap.size w W) (cs : List Value) (hv : VR W TT cs x) => vCheckG x cs TT W (hG.keep h) hv (hC x hx))
  have HBAD := Lib.hid hbad
  have HCALL := Lib.hid hcall
  rw [hnk] at hr2
  have HNK := Lib.hid hnk
  clear hG hr1 hr3 hr4 hC hbad hcall hnk
  go_enter Tryz.func190, Tryz.ntmps190
  go_wp2
  go_loopg [12] nk (fun gk s12 wr => ∃ i : Nat, i ≤ nk ∧ gk = nk - i ∧ s12 = .int .i64 i ∧ Hid (∀ x ∈ l.take i, gd x) ∧ Hid (Below w.heap.size w wr))
  case atStart => exact ⟨0, Nat.zero_le _, rfl, by go_num, Lib.hid (fun x h => by simp at h), Lib.hid (Below.refl _ _)⟩
  case round =>
    obtain ⟨i, hi, hgk, rfl, HGD, HB⟩ := hrel
    have HG := Lib.hid hgk
    clear hgk
    by_cases hlt : i < nk
    · obtain ⟨x, hx⟩ : ∃ x, l[i]? = some x := ⟨_, List.getElem?_eq_getElem (by rw [HNK.out]; exact hlt)⟩
      obtain ⟨b, o, k1, n1, s1, A1, na1, ca1, B1, nb1, cb1, rfl, hb, hvx, hz⟩ := HIH.out i x hx
      obtain ⟨q0, q1, q2, q3, q4⟩ := hz _ HB.out
      have hbA := (Below.refl wr.heap.size wr).alloc (Nat.le_refl _) (.cells #[.int .i64 k1, .int .i64 n1, .string s1, .slice A1 na1 ca1, .slice B1 nb1 cb1] 25)
      have HB2 := Lib.hid (HB.out.trans (hbA.mono HB.out.size))
      have hck := HCK.out x (List.mem_of_getElem? hx) _ HB2.out _ (hvx.bel HB2.out)
      have hb1 : b < wr.heap.size := Nat.lt_of_lt_of_le hb HB.out.size
      have HTK := Lib.hid (show gd x → ∀ y ∈ l.take (i + 1), gd y from fun g y hy => by
        rw [List.take_add_one, hx] at hy
        rcases List.mem_append.1 hy with hy | hy
        · exact HGD.out y hy
        · obtain rfl : y = x := by simpa using hy
          exact g)
      have HXM := Lib.hid (List.mem_of_getElem? hx)
      clear hz hvx hx hbA
      by_cases hg : gd x
      · rw [show chkJ x = 0 from if_pos hg] at hck
        have HCL := Lib.hid hck
        clear hck
        go_wp2_with fail
        refine HCL.out.mono ?_
        rintro e w2 ⟨rfl, hb2⟩
        have HB3 := Lib.hid (HB2.out.trans (hb2.mono HB2.out.size))
        clear hb2
        go_wp2
        go_roundg (nk - (i + 1))
        case measure => rw [HG.out]; omega
        case rel => exact ⟨i + 1, hlt, rfl, by go_num, Lib.hid (HTK.out hg), HB3⟩
      · rw [show chkJ x = 140 from if_neg hg] at hck
        have HCL := Lib.hid hck
        clear hck
        go_wp2_with fail
        refine HCL.out.mono ?_
        rintro e w2 ⟨rfl, hb2⟩
        have HB3 := Lib.hid (HB2.out.trans (hb2.mono HB2.out.size))
        have HXB := Lib.hid (HBAD.out ⟨x, HXM.out, hg⟩)
        clear hb2
        go_wp2
        exact HXB.out _ HB3.out
    · obtain rfl : i = nk := by omega
      have hall := HGD.out
      rw [List.take_of_length_le (Nat.le_of_eq HNK.out)] at hall
      have HCC := Lib.hid (HCALL.out hall _ HB.out)
      clear hall
      go_wp2_with fail
      refine HCC.out.mono ?_
      rintro e w2 ⟨a, b, rfl, hq⟩
      have HQ := Lib.hid hq
      clear hq
      go_wp2
      exact HQ.out
end Go.Proofs.YtgolomgmnanbpaaGreatDoor
namespace Go.Proofs.YtgolomgmnanbpaaGreatDoor
set_option linter.unusedVariables false
set_option linter.unusedSimpArgs false
open Go.RowKit
attribute [local go_sem] run_index_arr run_part_agg run_part_one run_field_agg
theorem RowV.blk {W : World} {g : Nat} {t : TypeId} {css : List (List Value)} {l : List JV} {ca : Nat} (h : VRs W TT css l) (hca : l.length ≤ ca) (hb : Blk W g t css.flatten.toArray) : RowV W (some ⟨g, 0, none⟩) ca l :=
  ⟨css, h, hca, fun e => by simp at e, fun hne => ⟨g, 0, rfl, hb.lt, trivial, fun i hi => by
    have := hb.cell i
    rw [Nat.zero_add, this]
    simp [hi]⟩⟩
theorem VR.top {W : World} {F : Nat → Prop} {cs : List Value} {v : JV} (h : VR W F cs v) : VR W TT cs v := h.mono fun _ _ _ => trivial
theorem VRs.one_ {W : World} {cs : List Value} {v : JV} (h : VR W TT cs v) : VRs W TT [cs] [v] := by
  have := VRs.nil.snoc h; simpa using this
theorem VRs.two_ {W : World} {cs cs' : List Value} {v v' : JV} (h : VR W TT cs v) (h' : VR W TT cs' v') : VRs W TT [cs, cs'] [v, v'] := by
  have := (VRs.one_ h).snoc h'; simpa using this
noncomputable def cmpO (a b : JV) : Int × Int := if good a = true ∧ good b = true then (cmpJ a b, 0) else (0, 140)
set_option maxRecDepth 100000 in
set_option maxHeartbeats 4000000 in
theorem cCompare1 (a b : JV) (cs cs' : List Value) (g g' : Nat) (F F' : Nat → Prop) (w : World) (h : VR w F cs a) (h' : VR w F' cs' b) (ha : gd a) (hb : gd b) (c : Came a) (c' : Came b) (hB : Blk w g 25 cs.toArray) (hB' : Blk w g' 25 cs'.toArray) :
    Calls Tryz.prog 191 #[.pointer (some ⟨g, 0, none⟩), .pointer (some ⟨g', 0, none⟩)] w fun e w' => e = .returned (.tuple #[.int .i64 (cmpJ a b), .int .i64 0]) ∧ Below w.heap.size w w' := by
  have HC := Lib.hid (cCompare_any a b cs cs' F F' w h h' ha hb c c')
  obtain ⟨k0, n0, s0, A0, na0, ca0, B0, nb0, cb0, rfl⟩ := h.form
  obtain ⟨k1, n1, s1, A1, na1, ca1, B1, nb1, cb1, rfl⟩ := h'.form
  obtain ⟨R, hR⟩ : ∃ R, cmpJ a b = R := ⟨_, rfl⟩
  rw [hR] at HC ⊢
  clear h h' hR ha hb c c'
  obtain ⟨c1, f1, l1⟩ := hB.rules
  obtain ⟨c2, f2, l2⟩ := hB'.rules
  clear hB hB'
  go_enter Tryz.func191, Tryz.ntmps191
  go_wp2_with fail
  refine HC.out.mono ?_
  rintro e w1 ⟨rfl, hg⟩
  have HG := Lib.hid hg
  clear hg
  go_wp2
  go_ret2
  exact ⟨rfl, HG.out.1⟩
set_option maxRecDepth 100000 in
set_option maxHeartbeats 4000000 in
theorem cComp (a b : JV) (cs cs' : List Value) (F F' : Nat → Prop) (w : World) (hG : GOK w) (h : VR w F cs a) (h' : VR w F' cs' b) (c : Came a) (c' : Came b) :
    Calls Tryz.prog 172 #[.agg cs.toArray, .agg cs'.toArray] w fun e w' => e = .returned (.tuple #[.int .i64 (cmpO a b).1, .int .i64 (cmpO a b).2]) ∧ Below w.heap.size w w' := by
  have HV := Lib.hid h.top
  have HV' := Lib.hid h'.top
  obtain ⟨k0, n0, s0, A0, na0, ca0, B0, nb0, cb0, rfl⟩ := h.form
  obtain ⟨k1, n1, s1, A1, na1, ca1, B1, nb1, cb1, rfl⟩ := h'.form
  have HT := Lib.hid (fun (W : World) (hb : Below w.heap.size w W) (g ga gb : Nat) (t : TypeId)
      (h1 : Blk W g t #[.int .i64 k0, .int .i64 n0, .string s0, .slice A0 na0 ca0, .slice B0 nb0 cb0, .int .i64 k1, .int .i64 n1, .string s1, .slice A1 na1 ca1, .slice B1 nb1 cb1])
      (h2 : Blk W ga 25 #[.int .i64 k0, .int .i64 n0, .string s0, .slice A0 na0 ca0, .slice B0 nb0 cb0]) (h3 : Blk W gb 25 #[.int .i64 k1, .int .i64 n1, .string s1, .slice A1 na1 ca1, .slice B1 nb1 cb1]) =>
    toldI [a, b] (some ⟨g, 0, none⟩) 2 2 (.pointer (some ⟨ga, 0, none⟩)) (.pointer (some ⟨gb, 0, none⟩)) W (hG.keep hb) (RowV.blk (VRs.two_ (HV.out.bel hb) (HV'.out.bel hb)) (Nat.le_refl 2) h1) rfl (by intro x hx; simp at hx; rcases hx with rfl | rfl; exact c; exact c') (by omega)
      (fun e w' => e = .returned (.tuple #[.int .i64 (cmpO a b).1, .int .i64 (cmpO a b).2]) ∧ Below w.heap.size w w')
      (fun ⟨x, hx, hng⟩ W' hb' => by
        have : cmpO a b = (0, 140) := by
          unfold cmpO
          rw [if_neg]
          rintro ⟨q1, q2⟩
          simp at hx
          rcases hx with rfl | rfl
          · exact hng q1
          · exact hng q2
        exact ⟨by rw [this], hb.trans (hb'.mono hb.size)⟩)
      (fun hall W' hb' => by
        have hga := hall a (by simp)
        have hgb := hall b (by simp)
        have : cmpO a b = (cmpJ a b, 0) := if_pos ⟨hga, hgb⟩
        refine (cCompare1 a b _ _ ga gb TT TT W' ((HV.out.bel hb).bel hb') ((HV'.out.bel hb).bel hb') hga hgb c c' (h2.keep hb') (h3.keep hb')).mono ?_
        rintro e w' ⟨rfl, hb2⟩
        exact ⟨_, _, rfl, by rw [this], hb.trans ((hb'.trans (hb2.mono hb'.size)).mono hb.size)⟩))
  obtain ⟨R, hR⟩ : ∃ R, (cmpO a b).1 = R := ⟨_, rfl⟩
  obtain ⟨E, hE⟩ : ∃ E, (cmpO a b).2 = E := ⟨_, rfl⟩
  rw [hR, hE] at HT ⊢
  have hb3 : Below w.heap.size w (((w.alloc (.cells #[.int .i64 k0, .int .i64 n0, .string s0, .slice A0 na0 ca0, .slice B0 nb0 cb0] 25)).alloc (.cells #[.int .i64 k1, .int .i64 n1, .string s1, .slice A1 na1 ca1, .slice B1 nb1 cb1] 25))) :=
    ((Below.refl _ w).alloc (Nat.le_refl _) _).alloc (by simp) _
  have hA := (Blk.new w 25 #[.int .i64 k0, .int .i64 n0, .string s0, .slice A0 na0 ca0, .slice B0 nb0 cb0]).alloc (.cells #[.int .i64 k1, .int .i64 n1, .string s1, .slice A1 na1 ca1, .slice B1 nb1 cb1] 25)
  have hB := Blk.new (w.alloc (.cells #[.int .i64 k0, .int .i64 n0, .string s0, .slice A0 na0 ca0, .slice B0 nb0 cb0] 25)) 25 #[.int .i64 k1, .int .i64 n1, .string s1, .slice A1 na1 ca1, .slice B1 nb1 cb1]
  rw [World.size_alloc] at hB
  have HB3 := Lib.hid hb3
  have HA := Lib.hid hA
  have HBB := Lib.hid hB
  clear hb3 hA hB h h' hG c c' hR hE HV HV'
  have hmf : ∀ (fn : Fn) (first cap : Array Value) (w : World), (Instr.makeFunc fn first cap).run Tryz.prog w = .ok (.func fn first cap) w := fun _ _ _ _ => rfl
  have y1 : w.heap.size ≠ w.heap.size + 1 := by omega
  have y2 : w.heap.size + 1 ≠ w.heap.size := by omega
  go_enter Tryz.func172, Tryz.ntmps172
  go_wp2_with fail
  refine Calls.mono (HT.out _ (HB3.out.alloc HB3.out.size _) _ _ _ 25 ?h1 (HA.out.alloc _) (HBB.out.alloc _)) ?_
  case h1 =>
    have h := Blk.new ((w.alloc (.cells #[.int .i64 k0, .int .i64 n0, .string s0, .slice A0 na0 ca0, .slice B0 nb0 cb0] 25)).alloc (.cells #[.int .i64 k1, .int .i64 n1, .string s1, .slice A1 na1 ca1, .slice B1 nb1 cb1] 25)) 25 #[.int .i64 k0, .int .i64 n0, .string s0, .slice A0 na0 ca0, .slice B0 nb0 cb0, .int .i64 k1, .int .i64 n1, .string s1, .slice A1 na1 ca1, .slice B1 nb1 cb1]
    rw [World.size_alloc, World.size_alloc] at h
    exact h
  rintro e w1 ⟨rfl, hb1⟩
  have HF := Lib.hid hb1
  clear hb1
  go_wp2
  go_ret2
  exact ⟨rfl, HF.out⟩
end Go.Proofs.YtgolomgmnanbpaaGreatDoor
namespace Go.Proofs.YtgolomgmnanbpaaGreatDoor
set_option linter.unusedVariables false
set_option linter.unusedSimpArgs false
open Go.RowKit
attribute [local go_sem] run_index_arr run_part_agg run_part_one run_field_agg
def FN (F : Nat → Prop) (w : World) (b : Nat) : Prop := F b ∨ w.heap.size ≤ b
theorem VR.out5 {w W1 w1 : World} {F : Nat → Prop} {cs : List Value} {v : JV} (h : VR w1 (FN F W1) cs v) (hF : ∀ b, F b → b < w.heap.size) (hw : w.heap.size ≤ W1.heap.size) {g : Nat} (hg : w.heap.size ≤ g) (hg2 : g < W1.heap.size) (a b c d e : Value) :
    VR (((((w1.setCell ⟨g, 0, none⟩ a).setCell ⟨g, 1, none⟩ b).setCell ⟨g, 2, none⟩ c).setCell ⟨g, 3, none⟩ d).setCell ⟨g, 4, none⟩ e) (FN F w) cs v := by
  have hk : ∀ b, FN F W1 b → b ≠ g := fun b hb => by
    rcases hb with hb | hb
    · have := hF b hb; omega
    · omega
  refine (h.keep (((((KeepF.refl.set hk 0 a).set hk 1 b).set hk 2 c).set hk 3 d).set hk 4 e)).mono fun b _ hb => ?_
  rcases hb with hb | hb
  · exact .inl hb
  · exact .inr (by omega)
def ExP (o : Option JV) (F : Nat → Prop) (w : World) (e : Ending) (w' : World) : Prop := ∃ (cs : List Value) (v : JV) (b : Bool), e = .returned (.tuple #[.agg cs.toArray, .bool b]) ∧ VR w' (FN F w) cs v ∧ Came v ∧ o = (if b = true then some v else none) ∧ (b = true → good v = true) ∧ Below w.heap.size w w'
def BoP (o : Option Bool) (w : World) (e : Ending) (w' : World) : Prop := ∃ t b : Bool, e = .returned (.tuple #[.bool t, .bool b]) ∧ o = (if b = true then some t else none) ∧ Below w.heap.size w w'
def KidC (pv : Value) (F : Nat → Prop) (env : List (List UInt8 × JV)) (w : World) (y : EJ) : Prop :=
  ∀ W (cs : List Value), Below w.heap.size w W → ER W F cs y → Calls Tryz.prog 41 #[pv, .agg cs.toArray] W (ExP (evE env y) F W)
def NonP (w : World) (e : Ending) (w' : World) : Prop := e = .returned (.tuple #[.agg #[.int .i64 0, .int .i64 0, .string ⟨#[]⟩, .slice none 0 0, .slice none 0 0], .bool false]) ∧ Below w.heap.size w w'
set_option maxRecDepth 100000 in
set_option maxHeartbeats 4000000 in
theorem mNone (w : World) : Calls Tryz.prog 40 #[] w (NonP w) := by
  have HH0 := Lib.hid ((Held.nil w).push 25 zeroCs (g := w.heap.size) rfl)
  unfold zeroCs at HH0
  obtain ⟨c0, f0, l0⟩ := HH0.out.b0.rules
  go_enter Tryz.func40, Tryz.ntmps40
  go_wp2
  refine bodyPost_ret (v := .tuple #[.agg #[.int .i64 0, .int .i64 0, .string ⟨#[]⟩, .slice none 0 0, .slice none 0 0], .bool false]) (by simp only [results, Tryz.results40]; go_simp) rfl ?_
  exact ⟨rfl, by go_grown⟩
def TruP (b : Bool) (w : World) (e : Ending) (w' : World) : Prop := e = .returned (.tuple #[.agg #[.int .i64 2, .int .i64 (if b = true then 1 else 0), .string ⟨#[]⟩, .slice none 0 0, .slice none 0 0], .bool true]) ∧ Below w.heap.size w w'
def VBoP (b : Bool) (w : World) (e : Ending) (w' : World) : Prop := e = .returned (.agg #[.int .i64 2, .int .i64 (if b = true then 1 else 0), .string ⟨#[]⟩, .slice none 0 0, .slice none 0 0]) ∧ Below w.heap.size w w'
set_option maxRecDepth 100000 in
set_option maxHeartbeats 4000000 in
theorem vBoolV (b : Bool) (w : World) : Calls Tryz.prog 168 #[.bool b] w (VBoP b w) := by
  have HH0 := Lib.hid (((Held.nil w).push 25 #[.int .i64 0, .int .i64 0, .string ⟨#[]⟩, .slice none 0 0, .slice none 0 0] (g := w.heap.size) rfl).push 25 #[.int .i64 2, .int .i64 0, .string ⟨#[]⟩, .slice none 0 0, .slice none 0 0] (g := w.heap.size + 1) (by simp))
  cases b
  · go_enter Tryz.func168, Tryz.ntmps168
    go_wp2
    refine bodyPost_ret (v := .agg #[.int .i64 2, .int .i64 0, .string ⟨#[]⟩, .slice none 0 0, .slice none 0 0]) (by simp only [results, Tryz.results168]; go_simp) rfl ?_
    exact ⟨rfl, by go_grown⟩
  · go_enter Tryz.func168, Tryz.ntmps168
    go_wp2
    refine bodyPost_ret (v := .agg #[.int .i64 2, .int .i64 1, .string ⟨#[]⟩, .slice none 0 0, .slice none 0 0]) (by simp only [results, Tryz.results168]; go_simp) rfl ?_
    exact ⟨rfl, by go_grown⟩
def VInP (n : Int) (w : World) (e : Ending) (w' : World) : Prop := e = .returned (.agg #[.int .i64 3, .int .i64 n, .string ⟨#[]⟩, .slice none 0 0, .slice none 0 0]) ∧ Below w.heap.size w w'
set_option maxRecDepth 100000 in
set_option maxHeartbeats 4000000 in
theorem vIntV (n : Int) (w : World) : Calls Tryz.prog 30 #[.int .i64 n] w (VInP n w) := by
  go_enter Tryz.func30, Tryz.ntmps30
  go_wp2
  refine bodyPost_ret (v := .agg #[.int .i64 3, .int .i64 n, .string ⟨#[]⟩, .slice none 0 0, .slice none 0 0]) (by simp only [results, Tryz.results30]; go_simp) rfl ?_
  exact ⟨rfl, by go_grown⟩
set_option maxRecDepth 100000 in
set_option maxHeartbeats 4000000 in
theorem mTruth (b : Bool) (w : World) : Calls Tryz.prog 124 #[.bool b] w (TruP b w) := by
  have HH0 := Lib.hid ((Held.nil w).push 25 #[.int .i64 0, .int .i64 0, .string ⟨#[]⟩, .slice none 0 0, .slice none 0 0] (g := w.heap.size) rfl)
  obtain ⟨z, hz⟩ : ∃ z : Int, (if b = true then 1 else 0) = z := ⟨_, rfl⟩
  unfold TruP
  have HV := Lib.hid (fun W => vBoolV b W)
  unfold VBoP at HV
  rw [hz] at HV ⊢
  clear hz
  go_enter Tryz.func124, Tryz.ntmps124
  go_wp2_with fail
  refine (HV.out _).mono ?_
  rintro e w1 ⟨rfl, hb1⟩
  have HH1 := Lib.hid (HH0.out.keep hb1)
  clear hb1 HH0
  obtain ⟨c0, f0, l0⟩ := HH1.out.b0.rules
  go_wp2
  refine bodyPost_ret (v := .tuple #[.agg #[.int .i64 2, .int .i64 z, .string ⟨#[]⟩, .slice none 0 0, .slice none 0 0], .bool true]) (by simp only [results, Tryz.results124]; go_simp) rfl ?_
  exact ⟨rfl, five_bel HH1.out.1 (Nat.le_refl _) _ _ _ _ _⟩
theorem came_atom {k n : Int} {s : List UInt8} (hk : iw k) (hn : iw n) (hs : s.length ≤ 4194304) : Came (.mk k n s [] []) :=
  ⟨by unfold inJ inL; exact ⟨hk, hn, trivial⟩, by unfold nodesJ nodesL; omega, by unfold lenJ lenL; exact ⟨hs, by simp, by simp, by simp, trivial⟩⟩
theorem came_bool (b : Bool) : Came (jBool b) := came_atom (by unfold iw; omega) (by unfold iw; cases b <;> simp) (by simp)
theorem came_num {n : Int} (h : iw n) : Came (jNum n) := came_atom (by unfold iw; omega) h (by simp)
theorem ExP.none_ {o : Option JV} {F : Nat → Prop} {w w1 w' : World} (ho : o = none) (hb : Below w.heap.size w w') :
    ExP o F w (.returned (.tuple #[.agg #[.int .i64 0, .int .i64 0, .string ⟨#[]⟩, .slice none 0 0, .slice none 0 0], .bool false])) w' :=
  ⟨_, jZero, false, rfl, VR.zero, came_atom (by unfold iw; omega) (by unfold iw; omega) (by simp), by rw [ho]; rfl, (fun h => by cases h), hb⟩
theorem ExP.bool_ {o : Option JV} {F : Nat → Prop} {w w' : World} {b : Bool} {z : Int} (hz : z = if b = true then 1 else 0) (ho : o = some (jBool b)) (hb : Below w.heap.size w w') :
    ExP o F w (.returned (.tuple #[.agg #[.int .i64 2, .int .i64 z, .string ⟨#[]⟩, .slice none 0 0, .slice none 0 0], .bool true])) w' :=
  ⟨_, jBool b, true, rfl, by rw [hz]; exact VR.atom 2 _ [], came_bool b, by rw [ho]; rfl, fun _ => good_bool b, hb⟩
theorem ExP.num_ {o : Option JV} {F : Nat → Prop} {w w' : World} {n : Int} (hn : iw n) (ho : o = some (jNum n)) (hb : Below w.heap.size w w') :
    ExP o F w (.returned (.tuple #[.agg #[.int .i64 3, .int .i64 n, .string ⟨#[]⟩, .slice none 0 0, .slice none 0 0], .bool true])) w' :=
  ⟨_, jNum n, true, rfl, VR.atom 3 n [], came_num hn, by rw [ho]; rfl, fun _ => good_int n, hb⟩
set_option maxRecDepth 100000 in
set_option maxHeartbeats 4000000 in
theorem mBoolean {pv : Value} {F : Nat → Prop} {env : List (List UInt8 × JV)} {x : EJ} {w : World} (hk : KidC pv F env w x) (W : World) (cs : List Value) (hW : Below w.heap.size w W) (hx : ER W F cs x) :
    Calls Tryz.prog 94 #[pv, .agg cs.toArray] W (BoP (isB (evE env x)) W) := by
  have HK := Lib.hid (fun (W' : World) (h : Below W.heap.size W W') => hk W' cs (hW.trans (h.mono hW.size)) (hx.bel h))
  obtain ⟨k, k1, n1, s1, A1, na1, ca1, B1, nb1, cb1, s, A, n, ca, rfl⟩ := hx.form
  have HH0 := Lib.hid ((Held.nil W).push 28 #[.int .i64 k, .int .i64 k1, .int .i64 n1, .string s1, .slice A1 na1 ca1, .slice B1 nb1 cb1, .string s, .slice A n ca] (g := W.heap.size) rfl)
  obtain ⟨o, ho⟩ : ∃ o, evE env x = o := ⟨_, rfl⟩
  rw [ho] at HK ⊢
  clear hk hW hx ho
  obtain ⟨c0, f0, l0⟩ := HH0.out.b0.rules
  go_enter Tryz.func94, Tryz.ntmps94
  go_wp2_with fail
  refine (HK.out _ HH0.out.1).mono ?_
  rintro e w1 ⟨cs1, v, b, rfl, hv, hc, ho, hg, hb1⟩
  obtain ⟨vk, vn, vs, vkids, vkeys⟩ := v
  obtain ⟨VA, VB, va, vb, vcss, rfl, _⟩ := hv.out
  have HH1 := Lib.hid ((HH0.out.keep hb1).push 25 #[.int .i64 vk, .int .i64 vn, .string ⟨vs.toArray⟩, .slice VA vkids.length va, .slice VB vkeys.length vb] (g := w1.heap.size) rfl)
  have HO := Lib.hid ho
  obtain ⟨c1, f1, l1⟩ := (HH0.out.keep hb1).b0.rules
  clear hb1 c0 f0 l0 HH0 hv hc hg ho HK
  cases b
  · go_wp2
    go_quiet (fail)
    go_wp2
    refine bodyPost_ret (v := .tuple #[.bool (vn == 1), .bool false]) (by simp only [results, Tryz.results94]; go_simp) rfl ?_
    exact ⟨_, false, rfl, by rw [HO.out]; rfl, (HH1.out.drewN _).1⟩
  · by_cases h2 : vk = 2
    · have e2 : (vk == 2) = true := by simp [h2]
      have H2 := Lib.hid h2
      clear h2
      go_wp2
      go_quiet (fail)
      go_wp2
      refine bodyPost_ret (v := .tuple #[.bool (vn == 1), .bool true]) (by simp only [results, Tryz.results94]; go_simp) rfl ?_
      refine ⟨_, true, rfl, ?_, (HH1.out.drewN _).1⟩
      rw [HO.out]
      show (if vk = 2 then some (decide (vn = 1)) else none) = some (vn == 1)
      rw [if_pos H2.out]; rfl
    · have e2 : (vk == 2) = false := by simp [h2]
      have H2 := Lib.hid h2
      clear h2
      go_wp2
      go_quiet (fail)
      go_wp2
      refine bodyPost_ret (v := .tuple #[.bool (vn == 1), .bool false]) (by simp only [results, Tryz.results94]; go_simp) rfl ?_
      refine ⟨_, false, rfl, ?_, (HH1.out.drewN _).1⟩
      rw [HO.out]
      show (if vk = 2 then some (decide (vn = 1)) else none) = none
      rw [if_neg H2.out]
end Go.Proofs.YtgolomgmnanbpaaGreatDoor
