/- The walk of vlex.Lex. -/
import Derived.Test.YtalhoacancbldaaDoorVlex10
import Derived.Test.YtalhoacancbldaaDoorTok2
import Derived.Test.YtalhoacancbldaaDoorBytes
import Derived.Test.YtalhoacancbldaaDoorIter2
namespace Go.Proofs.YtalhoacancbldaaDoor
set_option linter.unusedVariables false
set_option linter.unusedSimpArgs false
open Go.RowKit Go.Shelf
attribute [local go_sem] run_index_arr run_part_agg run_part_one run_field_agg Oper.semAt_some

/-- the iterator's contract -/
theorem tokens_seq (w0 : World) (g rb wb : Nat) (A : Option Addr) (cap : Nat) (l : List UInt8) (p0 : Nat) (w : World) (hG : GOK w0) (hr : Rd w0 A (byteV l)) (hcap : l.length ≤ cap) (hlen : l.length ≤ 1048576)
    (hp0 : p0 ≤ l.length) (hgr : g ≠ rb) (hgw : g ≠ wb) (hg0 : w0.heap.size ≤ g) (hW : KeepOn (· < w0.heap.size) w0 w)
    (hV : VB w g A cap l p0 0) (hrb : Blk w rb 60 #[.pointer (some ⟨g, 0, none⟩)]) (hwb : Blk w wb 98 (waysC g)) :
    SeqSt Fence.wide 2 Tryd.prog 72 #[.pointer (some ⟨rb, 0, none⟩), .pointer (some ⟨wb, 0, none⟩)] encT
      (StV g A cap l) (KpV w0.heap.size g rb wb) (fun pre x => pre ++ [x] <+: (vToks l p0).1) (DoneV g A cap l p0) (fun pre _ => pre <+: (vToks l p0).1) w := by
  intro k J Jx W hW2 hJ _ hY h0
  exact tokens1_any w0 g rb wb A cap l p0 k J Jx W hG hr hcap hlen hp0 hgr hgw hg0 (hW.trans (KeepOn.of_below hW2 (fun i hi => Nat.lt_of_lt_of_le hi hW.1))) hJ hY (hV.keep hW2) (hrb.keep hW2) (hwb.keep hW2) h0

/-- what vlex.Lex answers: the tokens, the place, the error -/
def vLex (l : List UInt8) : List VTok × Int × Int :=
  if 512 < l.length then ([], 0, 3) else match (vToks l 0).2 with | none => ((vToks l 0).1, 0, 0) | some e => ([], e.1, e.2)
def LexPost (r : List VTok × Int × Int) (w : World) (e : Ending) (w' : World) : Prop :=
  ∃ v, e = .returned (.tuple #[v, .int .i64 r.2.1, .int .i64 r.2.2]) ∧ TS w' v r.1 ∧ Below w.heap.size w w'

theorem vRun_len (l : List UInt8) : ∀ (k p : Nat), (vRun l k p).1.length ≤ k
  | 0, _ => by simp [vRun]
  | k + 1, p => by
    unfold vRun
    split
    · cases hv : vTake l (skipB l p) with
      | inr e => simp
      | inl r =>
        obtain ⟨kd, t, n, m⟩ := r
        have := vRun_len l k m
        simp; omega
    · simp
theorem vToks_len (l : List UInt8) (p : Nat) : (vToks l p).1.length ≤ l.length + 1 - p := vRun_len l _ p
theorem Rd.below_at {W W' : World} {b o N : Nat} {xs : List Value} (h : Rd W (some ⟨b, o, none⟩) xs) (hb : Below N W W') (hN : b < N) : Rd W' (some ⟨b, o, none⟩) xs := fun hn => by
  obtain ⟨b', o', e, hlt, hx⟩ := h hn
  obtain ⟨rfl, rfl⟩ : b = b' ∧ o = o' := by simpa using e
  exact ⟨b, o, rfl, Nat.lt_of_lt_of_le hlt hb.size, fun i hi => by rw [← hx i hi]; exact World.cell?_of_block (w := W) (hb.block b hN)⟩
/-- what is known between two rounds -/
def LexI (w : World) (A : Option Addr) (cap : Nat) (l : List UInt8) (pre : List VTok) (W : World) : Prop :=
  (∃ v, Boxed W (w.heap.size + 2) 24 v ∧ W.ownsRow (w.heap.size + 1) 30 4 v pre.length (tokCells pre)) ∧ Below w.heap.size w W ∧ (∃ p why, VB W (w.heap.size + 1) A cap l p why) ∧
    Blk W (w.heap.size + 3) 60 #[.pointer (some ⟨w.heap.size + 1, 0, none⟩)] ∧ Blk W (w.heap.size + 4) 98 (waysC (w.heap.size + 1)) ∧ w.heap.size + 5 ≤ W.heap.size
theorem VB.putObj {W : World} {g : Nat} {A : Option Addr} {cap : Nat} {l : List UInt8} {p why : Int} {k : Nat} {o : Obj} (o' : Obj) (h : VB W g A cap l p why) (ho : W.heap[k]? = some o) (hc : o.isCells = false) : VB (W.putObj k o') g A cap l p why :=
  ⟨h.1.putObj o' ho hc, h.2.putObj o' ho hc⟩
theorem LexI.putObj {w : World} {A : Option Addr} {cap : Nat} {l : List UInt8} {pre : List VTok} {W : World} {k : Nat} {o : Obj} (o' : Obj) (h : LexI w A cap l pre W) (hk : w.heap.size ≤ k) (ho : W.heap[k]? = some o) (hc : o.isCells = false) : LexI w A cap l pre (W.putObj k o') := by
  obtain ⟨⟨v, hv, hr⟩, hb, ⟨p, why, hV⟩, h1, h2, h3⟩ := h
  exact ⟨⟨v, Blk.putObj o' hv ho hc, ownsRow_putObj hr o' ho hc⟩, below_putObj hb k o' hk, ⟨p, why, hV.putObj o' ho hc⟩, h1.putObj o' ho hc, h2.putObj o' ho hc, by simpa [World.putObj] using h3⟩
theorem LexI.alloc {w : World} {A : Option Addr} {cap : Nat} {l : List UInt8} {pre : List VTok} {W : World} (h : LexI w A cap l pre W) (o : Obj) : LexI w A cap l pre (W.alloc o) := by
  obtain ⟨⟨v, hv, hr⟩, hb, ⟨p, why, hV⟩, h1, h2, h3⟩ := h
  exact ⟨⟨v, Blk.alloc hv o, hr.alloc o⟩, hb.alloc hb.size o, ⟨p, why, hV.keep ((Below.refl _ W).alloc (Nat.le_refl _) o)⟩, h1.alloc o, h2.alloc o, by simp; omega⟩
theorem LexI.step {w : World} {A : Option Addr} {cap : Nat} {l : List UInt8} {pre : List VTok} {W W' : World} (h : LexI w A cap l pre W) (hs : StV (w.heap.size + 1) A cap l W W') : LexI w A cap l pre W' := by
  obtain ⟨⟨v, hv, hr⟩, hb, ⟨p, why, hV⟩, h1, h2, h3⟩ := h
  have hne := own_blk_ne hr hV.1 (by decide)
  exact ⟨⟨v, hv.kept hs.1 (by simp), hr.kept hs.1 (.inr (Ne.symm hne))⟩, hb.grown hs.1 hb.size (fun k e => by cases e; omega), hs.2 ⟨p, why, hV⟩, h1.grown hs.1 (by simp), h2.grown hs.1 (by simp), Nat.le_trans h3 hs.1.size⟩

set_option maxRecDepth 100000 in
set_option maxHeartbeats 4000000 in
theorem lex_go (s : ByteArray) (w : World) (hG : GOK w) (hs : s.size ≤ 512) : Calls Tryd.prog 17 #[.string s] w (LexPost (vLex (sl s)) w) := by
  obtain ⟨i0, hi, hz0, hz1, hz2⟩ := info_parts infoTok
  refine (callsIn_wide (n := 3)).1 ?_
  refine callsIn_of_wp_marks Tryd.func17 rfl trivial ?_ rfl
  simp only [Tryd.ntmps17, List.size_toArray, List.length_cons, List.length_nil, Nat.reduceAdd, Nat.reduceSub, Array.replicate_succ, Array.replicate_zero, List.push_toArray, List.append_toArray, List.nil_append, List.cons_append]
  refine wpIn_wide.2 ?_
  obtain ⟨cap, W1, hcv, hcap, hb1, hs1, hr1⟩ := conv_bytes (P := Tryd.prog) w 9 36 5 s Tryd.underlying9 Tryd.underlying36 Tryd.underlying5
  rw [← sl_len s] at hcap
  have hlen : (sl s).length ≤ 512 := by rw [sl_len]; exact hs
  obtain ⟨l, hl⟩ : ∃ l, sl s = l := ⟨_, rfl⟩
  have hsz : s.size = l.length := by rw [← hl, sl_len]
  rw [hl] at hr1 hcap hlen
  rw [hsz] at hcv
  have HSZ := Lib.hid hsz
  have HSL := Lib.hid hl
  have hsi : (512 : Int) < (s.size : Int) → False := by omega
  have hs512 : (s.size : Int) ≤ 512 := by omega
  clear hsz hl hs
  have HR := Lib.hid hr1
  have HB1 := Lib.hid hb1
  have HG := Lib.hid hG
  clear hr1 hb1 hG
  go_wp2_with (go_at_call 41; refine (tokens_any _ _).mono ?_; rintro e w2 ⟨rfl, hrb, hwb, hs2, hb2⟩)
  rw [show w.heap.size + 1 + 1 + 1 + 1 = w.heap.size + 4 from rfl, show w.heap.size + 1 + 1 + 1 = w.heap.size + 3 from rfl, show w.heap.size + 1 + 1 = w.heap.size + 2 from rfl]
  have hbr := Blk.new W1 64 (vCells (some ⟨w.heap.size, 0, none⟩) l.length cap 0 0)
  have hbo := Blk.new (W1.alloc (.cells (vCells (some ⟨w.heap.size, 0, none⟩) l.length cap 0 0) 64)) 24 #[.slice none 0 0]
  rw [hs1] at hbr
  simp only [World.size_alloc, hs1] at hrb hwb hs2 hb2 hbo
  have hb3 : Below W1.heap.size W1 w2 := (((Below.refl _ W1).alloc (Nat.le_refl _) _).alloc (by simp) _).trans (hb2.mono (by omega))
  have hV2 : VB w2 (w.heap.size + 1) (some ⟨w.heap.size, 0, none⟩) cap l 0 0 := ⟨((hbr.alloc _).below hb2 (by omega)), (HR.out.below hb3)⟩
  have hI0 : LexI w (some ⟨w.heap.size, 0, none⟩) cap l [] w2 := ⟨⟨_, hbo.below hb2 (by omega), World.ownsRow_nil _ _ _ _⟩, HB1.out.trans (hb3.mono HB1.out.size), ⟨0, 0, hV2⟩, hrb, hwb, by omega⟩
  clear hbr hbo hb2
  refine (wpIn_wide (n := 3)).1 ?_
  refine wpIn_rf2 rfl (by omega) (gf := 72) (lb := #[.pointer (some ⟨w.heap.size + 3, 0, none⟩), .pointer (some ⟨w.heap.size + 4, 0, none⟩)]) rfl trivial (enters_of Tryd.func72 (by kernel_rfl) rfl)
    (tokens_seq W1 (w.heap.size + 1) (w.heap.size + 3) (w.heap.size + 4) (some ⟨w.heap.size, 0, none⟩) cap l 0 w2 (HG.out.keep HB1.out) HR.out hcap (by omega) (Nat.zero_le _) (by omega) (by omega) (by omega) (KeepOn.of_below hb3 (fun _ h => h)) hV2 hrb hwb) (Below.refl _ _) (fun _ => rfl)
    (fun A B k o hs hk ho _ => (hs.1.block k (Array.getElem?_eq_some_iff.1 ho).1 (by simp; omega)).trans ho)
    (fun h k => h.trans k) (fun W k o o' hk _ _ => KeepOn.putObj (N := w2.heap.size) (by intro j hj; omega) W k o' hk)
    (fun xs W k o o' _ ho hc h => by obtain ⟨h1, q, er, h2, h3⟩ := h; exact ⟨h1, q, er, h2.putObj o' ho hc, h3⟩) (fun _ _ _ _ _ _ _ _ h => h)
    (LexI w (some ⟨w.heap.size, 0, none⟩) cap l) (fun _ _ _ => False) (fun s A B hs h => h.step hs) (fun _ _ _ _ _ h => h) (fun s W k o o' hk ho hc h => h.putObj o' (by omega) ho hc) (fun _ _ _ _ _ _ _ _ _ h => h) (fun o o' => (hI0.alloc o).alloc o')
    (fun pre x a1 W => ∃ tb, a1 = { tmps := #[.string s, undef, .slice none 0 0, .int .i64 0, .int .i64 0, .pointer (some ⟨w.heap.size + 1, 0, none⟩), .pointer (some ⟨w.heap.size + 2, 0, none⟩), .pointer (some ⟨tb, 0, none⟩), .string s, .int .i64 s.size, .bool (decide (512 < (s.size : Int))), .string s, .slice (some ⟨w.heap.size, 0, none⟩) l.length cap,
      .agg #[.int .i64 0, .int .i64 0, .slice (some ⟨w.heap.size, 0, none⟩) l.length cap], .pointer (some ⟨w.heap.size + 1, 0, none⟩), .pointer (some ⟨w.heap.size + 1, 0, none⟩), .func (.func 72) #[] #[.pointer (some ⟨w.heap.size + 3, 0, none⟩), .pointer (some ⟨w.heap.size + 4, 0, none⟩)], .agg #[.int .i64 x.1, .int .i64 x.2.1, .string ⟨x.2.2.1.toArray⟩, .int .i64 x.2.2.2], undef, undef, undef, undef, undef, undef, undef, undef, undef, undef, undef, undef, undef, undef, undef, undef, undef, undef, undef, undef, undef], defers := [] } ∧ Blk W tb 30 #[.int .i64 x.1, .int .i64 x.2.1, .string ⟨x.2.2.1.toArray⟩, .int .i64 x.2.2.2] ∧ LexI w (some ⟨w.heap.size, 0, none⟩) cap l pre W)
    ?hI1p ?assign ?body ?done ?stop
  case hI1p =>
    rintro pre x a1 W k o o' hk ho hc ⟨tb, e, h1, h2⟩
    exact ⟨tb, e, h1.putObj o' ho hc, h2.putObj o' (by omega) ho hc⟩
  case assign =>
    intro k pre x W hI hadm
    have hIA := hI.alloc (.cells #[.int .i64 x.1, .int .i64 x.2.1, .string ⟨x.2.2.1.toArray⟩, .int .i64 x.2.2.2] 30)
    have HIA := Lib.hid hIA
    clear hIA
    simp only [encT, tokV]
    gi_wp2
    have hba : Below W.heap.size W (W.alloc (.cells #[.int .i64 x.1, .int .i64 x.2.1, .string ⟨x.2.2.1.toArray⟩, .int .i64 x.2.2.2] 30)) := (Below.refl _ W).alloc (Nat.le_refl _) _
    exact ⟨⟨W.heap.size, rfl, Blk.new _ _ _, HIA.out⟩, KeepsFrom.below_ hba, KeepOn.of_below hba (fun k hk => by have := hI.2.2.2.2.2; omega)⟩
  case body =>
    rintro k pre x a1 W ⟨tb, rfl, htb, hI⟩ hadm
    obtain ⟨⟨v, hv, hrow⟩, hB, ⟨p, why, hV⟩, h1, h2, h3⟩ := hI
    have hpl : pre.length + 1 ≤ 513 := by have := hadm.length_le; have := vToks_len l 0; simp at *; omega
    have hc := hv.cell
    have hlt := hv.lt
    obtain ⟨c1, f1, l1⟩ := htb.rules
    have hnews : ∀ j u, (tokL x)[j]? = some u → (W.alloc (.cells #[.int .i64 x.1, .int .i64 x.2.1, .string ⟨x.2.2.1.toArray⟩, .int .i64 x.2.2.2] 30)).cell? ((⟨W.heap.size, 0, none⟩ : Addr).add j) = some u := by
      obtain ⟨ad, e, h⟩ := (Rd.of_blk (Blk.new W 30 #[.int .i64 x.1, .int .i64 x.2.1, .string ⟨x.2.2.1.toArray⟩, .int .i64 x.2.2.2])).at_ (by simp)
      cases e
      exact h
    have HW := Lib.hid (And.intro hnews (And.intro hV (And.intro h1 (And.intro h2 hB))))
    clear hnews hV h1 h2 hB
    gi_wp2_with (gi_at_builtin; refine wpListIn_append_own _ rfl _ _ 24 rfl (w.heap.size + 1) 30 i0 _ 4 40 Tryd.underlying24 hi hz0 hz1 hz2 rfl (by decide) _ _ _ rfl (hrow.alloc _) ⟨W.heap.size, 0, none⟩ 1 1 (tokL x) rfl rfl HW.out.1 (by have := tokCells_one [x]; simpa [tokCells] using this) (by unfold maxLen; omega) (by omega) (by simp; omega) ?_; intro v' w1 hown' hgrow _; obtain ⟨g', cap', rfl⟩ := ownsRow_succ hown'; obtain ⟨hv1, hv2, hr2, hk2, hb2⟩ := hv.appended (by decide) hrow (by omega) (by omega) hown' hgrow; have hc1 := hv1.cell; have hf1 := hv1.frozen)
    obtain ⟨_, hV, h1, h2, hB⟩ := HW.out
    have hV' : Blk (w1.setCell ⟨w.heap.size + 2, 0, none⟩ (.slice (some ⟨g', 0, none⟩) (pre.length + 1) cap')) (w.heap.size + 1) 64 _ := ((hV.1.alloc _).grown hgrow (own_blk_ne hrow hV.1 (by decide))).far (by simp) _
    have h1' : Blk (w1.setCell ⟨w.heap.size + 2, 0, none⟩ (.slice (some ⟨g', 0, none⟩) (pre.length + 1) cap')) (w.heap.size + 3) 60 _ := ((h1.alloc _).grown hgrow (own_blk_ne hrow h1 (by decide))).far (by simp) _
    have h2' : Blk (w1.setCell ⟨w.heap.size + 2, 0, none⟩ (.slice (some ⟨g', 0, none⟩) (pre.length + 1) cap')) (w.heap.size + 4) 98 _ := ((h2.alloc _).grown hgrow (own_blk_ne hrow h2 (by decide))).far (by simp) _
    refine ⟨hk2.from _, ⟨hb2.size, ?_⟩, ⟨_, hv2, ?_⟩, hB.trans (hb2.mono (by omega)), ⟨p, why, hV', hV.2.below_at hb2 (by omega)⟩, h1', h2', Nat.le_trans h3 hb2.size⟩
    · rintro k (hk | rfl | rfl | rfl)
      · exact hb2.block k (by omega)
      · exact keep_blk hV.1 hV'
      · exact keep_blk h1 h1'
      · exact keep_blk h2 h2'
    · have e : tokCells (pre ++ [x]) = tokCells pre ++ tokL x := by rw [tokCells_app]; simp [tokCells]
      rw [e, List.length_append, List.length_singleton]
      exact hr2
  case done =>
    rintro D xs W hD ⟨rfl, q, er, hV, hend⟩ hI hK
    obtain ⟨⟨v, hv, hrow⟩, hB, _, _, _, h3⟩ := hI
    obtain ⟨c1, f1, l1⟩ := hV.1.rules
    unfold vCells at c1
    have c2 := hv.cell
    by_cases her : er = 0
    · subst her
      rw [if_pos rfl] at hend
      have HS := Lib.hid (show vLex l = ((vToks l 0).1, 0, 0) by unfold vLex; rw [if_neg (by omega), hend])
      clear hend
      go_wp2
      refine ⟨by simp, .inl ⟨_, _, rfl, run_takeDeferred hK, ?_⟩⟩
      refine ⟨.tuple #[v, .int .i64 0, .int .i64 0], by simp only [results, Tryd.results17]; go_simp, ?_⟩
      rw [HSL.out, HS.out]
      exact ⟨v, rfl, TS.of_own (ownsRow_putObj hrow (.deferred none) hK rfl), below_putObj hB D _ (by omega)⟩
    · have her' : (er != 0) = true := by simpa using her
      rw [if_neg her] at hend
      have HS := Lib.hid (show vLex l = ([], q, er) by unfold vLex; rw [if_neg (by omega), hend])
      clear hend
      go_wp2
      go_quiet (fail)
      go_wp2
      have hK1 : (W.drewN nq).heap[D]? = some (.deferred (some [])) := hK
      refine ⟨by simp, .inl ⟨_, _, rfl, run_takeDeferred hK1, ?_⟩⟩
      refine ⟨.tuple #[.slice none 0 0, .int .i64 q, .int .i64 er], by simp only [results, Tryd.results17]; go_simp, ?_⟩
      rw [HSL.out, HS.out]
      exact ⟨_, rfl, TS.nil, below_putObj (bel_drewN hB _) D _ (by omega)⟩
  case stop =>
    rintro D c pre W _ _ h _
    exact h.elim

/-- THE CONTRACT OF vlex.Lex -/
theorem lex_any (s : ByteArray) (w : World) (hG : GOK w) (hs : s.size ≤ 1048576) : Calls Tryd.prog 17 #[.string s] w (LexPost (vLex (sl s)) w) := by
  by_cases h : s.size ≤ 512
  · exact lex_go s w hG h
  · have HS := Lib.hid (show vLex (sl s) = ([], 0, 3) by unfold vLex; rw [if_pos (by rw [sl_len]; omega)])
    go_enter Tryd.func17, Tryd.ntmps17
    go_wp2
    go_ret3
    rw [HS.out]
    exact ⟨_, rfl, TS.nil, Below.refl _ _⟩
end Go.Proofs.YtalhoacancbldaaDoor
