import Derived.Test.YtgolomgmnanbpaaGreatDoorZ11
import Derived.Deep.RegionHeld3
import Derived.Deep.MidRow
namespace Go.Proofs.YtgolomgmnanbpaaGreatDoor
set_option linter.unusedVariables false
set_option linter.unusedSimpArgs false
open Go.RowKit
attribute [local go_sem] run_index_arr run_part_agg run_part_one run_field_agg
theorem Blk.farC {g b : Nat} {t : TypeId} {cs : Array Value} (hb : g ≠ b) : ∀ (l : List Value) (o : Nat) {w : World}, Blk w g t cs → Blk (w.setCells b o l) g t cs
  | [], _, _, h => h
  | v :: r, o, w, h => Blk.farC hb r (o + 1) (h.far hb v)
theorem bel_setC {B : Nat} {a : World} {b : Nat} (hb : B ≤ b) : ∀ (l : List Value) (o : Nat) {w : World}, Below B a w → Below B a (w.setCells b o l)
  | [], _, _, h => h
  | v :: r, o, w, h => bel_setC hb r (o + 1) (h.setCell (p := ⟨b, o, none⟩) hb v)
theorem KeepF.setC {F : Nat → Prop} {a : World} {b : Nat} (hb : ∀ k, F k → k ≠ b) : ∀ (l : List Value) (o : Nat) {w : World}, KeepF F a w → KeepF F a (w.setCells b o l)
  | [], _, _, h => h
  | v :: r, o, w, h => KeepF.setC hb r (o + 1) (h.set hb o v)
theorem Blk.set5C {w : World} {g : Nat} {t : TypeId} {c0 c1 c2 c3 c4 : Value} (h : Blk w g t #[c0, c1, c2, c3, c4]) (a b c d e : Value) : Blk (w.setCells g 0 [a, b, c, d, e]) g t #[a, b, c, d, e] :=
  ((((h.set_ 0 a).set_ 1 b).set_ 2 c).set_ 3 d).set_ 4 e
theorem Blk.there {w : World} {g : Nat} {t : TypeId} {cs : Array Value} (h : Blk w g t cs) : World.there w g 0 cs.size :=
  fun j hj => ⟨by rw [Nat.zero_add, h.cell]; simp [hj], h.frozen _⟩
theorem KidC.mono {pv : Value} {F : Nat → Prop} {env : List (List UInt8 × JV)} {w W : World} {y : EJ} (h : KidC pv F env w y) (hW : Below w.heap.size w W) : KidC pv F env W y :=
  fun W' cs h1 h2 => h W' cs (hW.trans (h1.mono hW.size)) h2
def KidB (pv : Value) (F : Nat → Prop) (env : List (List UInt8 × JV)) (w : World) (y : EJ) : Prop :=
  ∀ W (cs : List Value), Below w.heap.size w W → ER W F cs y → Calls Tryz.prog 94 #[pv, .agg cs.toArray] W (BoP (isB (evE env y)) W)
theorem KidC.bool {pv : Value} {F : Nat → Prop} {env : List (List UInt8 × JV)} {w : World} {y : EJ} (h : KidC pv F env w y) : KidB pv F env w y :=
  fun W cs h1 h2 => mBoolean h W cs h1 h2
set_option maxRecDepth 100000 in
set_option maxHeartbeats 4000000 in
theorem mNot {pv : Value} {F : Nat → Prop} {env : List (List UInt8 × JV)} {w : World} {k : Int} {v : JV} {s : List UInt8} {y : EJ} {r : List EJ} {cs : List Value}  (hk : KidB pv F env w y) (hx : ER w F cs (.mk k v s (y :: r))) :
    Calls Tryz.prog 75 #[pv, .agg cs.toArray] w (ExP ((isB (evE env y)).map fun b => jBool (!b)) F w) := by
  obtain ⟨k1, n1, s1, A1, na1, ca1, B1, nb1, cb1, A, ca, css, rfl, hv, h1, h2, h3, h4⟩ := hx.out
  obtain ⟨b, o, kx, px, nx, sx, Ax, nax, cax, Bx, nbx, cbx, tx, Cx, ncx, ccx, rfl, hb, hER, hz⟩ := kid_cellsE h1 h4 (i := 0) (x := y) rfl
  have HKC := Lib.hid (fun (W : World) (h : Below w.heap.size w W) => hk W _ h (hER.bel h))
  have HZZ := Lib.hid (fun (W : World) (h : Below w.heap.size w W) => hz W h)
  obtain ⟨nr, hnr⟩ : ∃ q, (y :: r).length = q := ⟨_, rfl⟩
  have hnr1 : 1 ≤ nr := by rw [← hnr]; simp
  rw [hnr] at h2 ⊢
  have HLB := Lib.hid hb
  obtain ⟨o0, ho0⟩ : ∃ o, isB (evE env y) = o := ⟨_, rfl⟩
  rw [ho0] at HKC ⊢
  have HH0 := Lib.hid (((Held.nil w).push 28 #[.int .i64 k, .int .i64 k1, .int .i64 n1, .string s1, .slice A1 na1 ca1, .slice B1 nb1 cb1, .string ⟨s.toArray⟩, .slice (some ⟨b, o, none⟩) nr ca] (g := w.heap.size) rfl).push 25 #[.int .i64 0, .int .i64 0, .string ⟨#[]⟩, .slice none 0 0, .slice none 0 0] (g := w.heap.size + 1) (by simp))
  clear hk hx hv h1 h2 h3 h4 hER hz hb hnr ho0
  obtain ⟨op, hop⟩ : ∃ p, (o0.map fun b => jBool (!b)) = p := ⟨_, rfl⟩
  have HOP := Lib.hid hop
  rw [hop]
  clear hop
  obtain ⟨c0, f0, l0⟩ := HH0.out.b1.rules
  obtain ⟨z0, z1, z2, z3, z4, z5, z6, z7⟩ := HZZ.out _ (Below.refl _ _)
  simp only [Nat.zero_mul, Nat.add_zero] at z0 z1 z2 z3 z4 z5 z6 z7
  have lb := HLB.out
  go_enter Tryz.func75, Tryz.ntmps75
  go_wp2_with fail
  refine (HKC.out _ HH0.out.1).mono ?_
  rintro e w1 ⟨t, b1, rfl, ho, hb1⟩
  have HH1 := Lib.hid (HH0.out.keep hb1)
  have HO := Lib.hid ho
  clear hb1 c0 f0 l0 ho z0 z1 z2 z3 z4 z5 z6 z7 lb
  cases b1
  · go_wp2_with fail
    refine (mNone _).mono ?_
    rintro e wn ⟨rfl, hbn⟩
    have HHN := Lib.hid (HH1.out.keep hbn)
    clear hbn
    obtain ⟨c1, f1, l1⟩ := HHN.out.b0.rules
    go_wp2
    refine bodyPost_ret (v := .tuple #[.agg #[.int .i64 0, .int .i64 0, .string ⟨#[]⟩, .slice none 0 0, .slice none 0 0], .bool false]) (by simp only [results, Tryz.results75]; go_simp) rfl ?_
    exact ExP.none_ (w1 := w) (by rw [← HOP.out, HO.out]; rfl) (five_bel HHN.out.1 (by omega) _ _ _ _ _)
  · have HT := Lib.hid (fun W => mTruth (!t) W)
    obtain ⟨z, hz⟩ : ∃ z : Int, (if (!t) = true then 1 else 0) = z := ⟨_, rfl⟩
    unfold TruP at HT
    rw [hz] at HT
    have HZ := Lib.hid hz
    clear hz
    go_wp2_with fail
    refine (HT.out _).mono ?_
    rintro e w2 ⟨rfl, hb2⟩
    have HH2 := Lib.hid (HH1.out.keep hb2)
    clear hb2
    obtain ⟨c1, f1, l1⟩ := HH2.out.b0.rules
    go_wp2
    refine bodyPost_ret (v := .tuple #[.agg #[.int .i64 2, .int .i64 z, .string ⟨#[]⟩, .slice none 0 0, .slice none 0 0], .bool true]) (by simp only [results, Tryz.results75]; go_simp) rfl ?_
    exact ExP.bool_ (b := !t) (by rw [← HZ.out]) (by rw [← HOP.out, HO.out]; rfl) (five_bel HH2.out.1 (by omega) _ _ _ _ _)
def eitJ (d : Bool) (o0 o1 : Option Bool) : Option JV := match o0 with | none => none | some t => if t = d then some (jBool t) else o1.map jBool
set_option maxRecDepth 100000 in
set_option maxHeartbeats 4000000 in
theorem mEither {pv : Value} {F : Nat → Prop} {env : List (List UInt8 × JV)} {w : World} {k : Int} {v : JV} {s : List UInt8} {y : EJ} {r : List EJ} {cs : List Value} (d : Bool) (hk : KidB pv F env w y) {y' : EJ} (hk' : KidB pv F env w y') (hx : ER w F cs (.mk k v s (y :: y' :: r))) :
    Calls Tryz.prog 134 #[pv, .agg cs.toArray, .bool d] w (ExP (eitJ d (isB (evE env y)) (isB (evE env y'))) F w) := by
  obtain ⟨k1, n1, s1, A1, na1, ca1, B1, nb1, cb1, A, ca, css, rfl, hv, h1, h2, h3, h4⟩ := hx.out
  obtain ⟨b, o, kx, px, nx, sx, Ax, nax, cax, Bx, nbx, cbx, tx, Cx, ncx, ccx, rfl, hb, hER, hz⟩ := kid_cellsE h1 h4 (i := 0) (x := y) rfl
  have HKC := Lib.hid (fun (W : World) (h : Below w.heap.size w W) => hk W _ h (hER.bel h))
  obtain ⟨b', o', kz, pz, nz, sz, Az, naz, caz, Bz, nbz, cbz, tz, Cz, ncz, ccz, hA', hb', hER', hz'⟩ := kid_cellsE h1 h4 (i := 1) (x := y') rfl
  injection hA' with hA'; injection hA' with hA1 hA2; subst hA1 hA2
  have HKC' := Lib.hid (fun (W : World) (h : Below w.heap.size w W) => hk' W _ h (hER'.bel h))
  have HZZ' := Lib.hid (fun (W : World) (h : Below w.heap.size w W) => hz' W h)
  have HZZ := Lib.hid (fun (W : World) (h : Below w.heap.size w W) => hz W h)
  obtain ⟨nr, hnr⟩ : ∃ q, (y :: y' :: r).length = q := ⟨_, rfl⟩
  have hnr1 : 2 ≤ nr := by rw [← hnr]; simp
  rw [hnr] at h2 ⊢
  have HLB := Lib.hid hb
  obtain ⟨o0, ho0⟩ : ∃ o, isB (evE env y) = o := ⟨_, rfl⟩
  rw [ho0] at HKC ⊢
  have HH0 := Lib.hid (((Held.nil w).push 28 #[.int .i64 k, .int .i64 k1, .int .i64 n1, .string s1, .slice A1 na1 ca1, .slice B1 nb1 cb1, .string ⟨s.toArray⟩, .slice (some ⟨b, o, none⟩) nr ca] (g := w.heap.size) rfl).push 25 #[.int .i64 0, .int .i64 0, .string ⟨#[]⟩, .slice none 0 0, .slice none 0 0] (g := w.heap.size + 1) (by simp))
  obtain ⟨o1, ho1⟩ : ∃ o, isB (evE env y') = o := ⟨_, rfl⟩
  rw [ho1] at HKC' ⊢
  clear hk hk' hx hv h1 h2 h3 h4 hER hz hb hnr ho0 ho1 hER' hz' hb'
  obtain ⟨op, hop⟩ : ∃ p, eitJ d o0 o1 = p := ⟨_, rfl⟩
  have HOP := Lib.hid hop
  rw [hop]
  clear hop
  obtain ⟨c0, f0, l0⟩ := HH0.out.b1.rules
  obtain ⟨z0, z1, z2, z3, z4, z5, z6, z7⟩ := HZZ.out _ (Below.refl _ _)
  simp only [Nat.zero_mul, Nat.add_zero] at z0 z1 z2 z3 z4 z5 z6 z7
  have lb := HLB.out
  go_enter Tryz.func134, Tryz.ntmps134
  go_wp2_with fail
  refine (HKC.out _ HH0.out.1).mono ?_
  rintro e w1 ⟨t, b1, rfl, ho, hb1⟩
  have HH1 := Lib.hid (HH0.out.keep hb1)
  have HO := Lib.hid ho
  have HB1 := Lib.hid HH1.out.1
  clear hb1 c0 f0 l0 ho z0 z1 z2 z3 z4 z5 z6 z7 lb
  cases b1
  · go_wp2_with fail
    refine (mNone _).mono ?_
    rintro e wn ⟨rfl, hbn⟩
    have HHN := Lib.hid (HH1.out.keep hbn)
    clear hbn
    obtain ⟨c1, f1, l1⟩ := HHN.out.b0.rules
    go_wp2
    refine bodyPost_ret (v := .tuple #[.agg #[.int .i64 0, .int .i64 0, .string ⟨#[]⟩, .slice none 0 0, .slice none 0 0], .bool false]) (by simp only [results, Tryz.results134]; go_simp) rfl ?_
    exact ExP.none_ (w1 := w) (by rw [← HOP.out, HO.out]; rfl) (five_bel HHN.out.1 (by omega) _ _ _ _ _)
  · cases t
    · cases d
      · have HT := Lib.hid (fun W => mTruth false W)
        obtain ⟨z, hz⟩ : ∃ z : Int, (if false = true then 1 else 0) = z := ⟨_, rfl⟩
        unfold TruP at HT
        rw [hz] at HT
        have HZ := Lib.hid hz
        clear hz
        go_wp2_with fail
        refine (HT.out _).mono ?_
        rintro e wt ⟨rfl, hbt⟩
        have HHT := Lib.hid (HH1.out.keep hbt)
        clear hbt
        obtain ⟨c1, f1, l1⟩ := HHT.out.b0.rules
        go_wp2
        refine bodyPost_ret (v := .tuple #[.agg #[.int .i64 2, .int .i64 z, .string ⟨#[]⟩, .slice none 0 0, .slice none 0 0], .bool true]) (by simp only [results, Tryz.results134]; go_simp) rfl ?_
        exact ExP.bool_ (b := false) (by first | (rw [← HZ.out]; done) | (rw [← HZ.out]; rfl) | (rw [← HZ.out]; simp)) (by rw [← HOP.out, HO.out]; rfl) (five_bel HHT.out.1 (by omega) _ _ _ _ _)
      · obtain ⟨c0, f0, l0⟩ := HH1.out.b1.rules
        obtain ⟨y0, y1, y2, y3, y4, y5, y6, y7⟩ := HZZ'.out _ HB1.out
        simp only [Nat.one_mul, Nat.add_assoc, Nat.reduceAdd] at y0 y1 y2 y3 y4 y5 y6 y7
        have lb := HLB.out
        go_wp2_with fail
        refine (HKC'.out _ HB1.out).mono ?_
        rintro e w2 ⟨t2, b2, rfl, ho2, hb2⟩
        have HH2 := Lib.hid (HH1.out.keep hb2)
        have HO2 := Lib.hid ho2
        clear hb2 c0 f0 l0 ho2 y0 y1 y2 y3 y4 y5 y6 y7 lb
        cases b2
        · go_wp2_with fail
          refine (mNone _).mono ?_
          rintro e wn ⟨rfl, hbn⟩
          have HHN := Lib.hid (HH2.out.keep hbn)
          clear hbn
          obtain ⟨c1, f1, l1⟩ := HHN.out.b0.rules
          go_wp2
          refine bodyPost_ret (v := .tuple #[.agg #[.int .i64 0, .int .i64 0, .string ⟨#[]⟩, .slice none 0 0, .slice none 0 0], .bool false]) (by simp only [results, Tryz.results134]; go_simp) rfl ?_
          exact ExP.none_ (w1 := w) (by rw [← HOP.out, HO.out, HO2.out]; rfl) (five_bel HHN.out.1 (by omega) _ _ _ _ _)
        · have HT := Lib.hid (fun W => mTruth t2 W)
          obtain ⟨z, hz⟩ : ∃ z : Int, (if t2 = true then 1 else 0) = z := ⟨_, rfl⟩
          unfold TruP at HT
          rw [hz] at HT
          have HZ := Lib.hid hz
          clear hz
          go_wp2_with fail
          refine (HT.out _).mono ?_
          rintro e wt ⟨rfl, hbt⟩
          have HHT := Lib.hid (HH2.out.keep hbt)
          clear hbt
          obtain ⟨c1, f1, l1⟩ := HHT.out.b0.rules
          go_wp2
          refine bodyPost_ret (v := .tuple #[.agg #[.int .i64 2, .int .i64 z, .string ⟨#[]⟩, .slice none 0 0, .slice none 0 0], .bool true]) (by simp only [results, Tryz.results134]; go_simp) rfl ?_
          exact ExP.bool_ (b := t2) (by first | (rw [← HZ.out]; done) | (rw [← HZ.out]; rfl) | (rw [← HZ.out]; simp)) (by rw [← HOP.out, HO.out, HO2.out]; rfl) (five_bel HHT.out.1 (by omega) _ _ _ _ _)
    · cases d
      · obtain ⟨c0, f0, l0⟩ := HH1.out.b1.rules
        obtain ⟨y0, y1, y2, y3, y4, y5, y6, y7⟩ := HZZ'.out _ HB1.out
        simp only [Nat.one_mul, Nat.add_assoc, Nat.reduceAdd] at y0 y1 y2 y3 y4 y5 y6 y7
        have lb := HLB.out
        go_wp2_with fail
        refine (HKC'.out _ HB1.out).mono ?_
        rintro e w2 ⟨t2, b2, rfl, ho2, hb2⟩
        have HH2 := Lib.hid (HH1.out.keep hb2)
        have HO2 := Lib.hid ho2
        clear hb2 c0 f0 l0 ho2 y0 y1 y2 y3 y4 y5 y6 y7 lb
        cases b2
        · go_wp2_with fail
          refine (mNone _).mono ?_
          rintro e wn ⟨rfl, hbn⟩
          have HHN := Lib.hid (HH2.out.keep hbn)
          clear hbn
          obtain ⟨c1, f1, l1⟩ := HHN.out.b0.rules
          go_wp2
          refine bodyPost_ret (v := .tuple #[.agg #[.int .i64 0, .int .i64 0, .string ⟨#[]⟩, .slice none 0 0, .slice none 0 0], .bool false]) (by simp only [results, Tryz.results134]; go_simp) rfl ?_
          exact ExP.none_ (w1 := w) (by rw [← HOP.out, HO.out, HO2.out]; rfl) (five_bel HHN.out.1 (by omega) _ _ _ _ _)
        · have HT := Lib.hid (fun W => mTruth t2 W)
          obtain ⟨z, hz⟩ : ∃ z : Int, (if t2 = true then 1 else 0) = z := ⟨_, rfl⟩
          unfold TruP at HT
          rw [hz] at HT
          have HZ := Lib.hid hz
          clear hz
          go_wp2_with fail
          refine (HT.out _).mono ?_
          rintro e wt ⟨rfl, hbt⟩
          have HHT := Lib.hid (HH2.out.keep hbt)
          clear hbt
          obtain ⟨c1, f1, l1⟩ := HHT.out.b0.rules
          go_wp2
          refine bodyPost_ret (v := .tuple #[.agg #[.int .i64 2, .int .i64 z, .string ⟨#[]⟩, .slice none 0 0, .slice none 0 0], .bool true]) (by simp only [results, Tryz.results134]; go_simp) rfl ?_
          exact ExP.bool_ (b := t2) (by first | (rw [← HZ.out]; done) | (rw [← HZ.out]; rfl) | (rw [← HZ.out]; simp)) (by rw [← HOP.out, HO.out, HO2.out]; rfl) (five_bel HHT.out.1 (by omega) _ _ _ _ _)
      · have HT := Lib.hid (fun W => mTruth true W)
        obtain ⟨z, hz⟩ : ∃ z : Int, (if true = true then 1 else 0) = z := ⟨_, rfl⟩
        unfold TruP at HT
        rw [hz] at HT
        have HZ := Lib.hid hz
        clear hz
        go_wp2_with fail
        refine (HT.out _).mono ?_
        rintro e wt ⟨rfl, hbt⟩
        have HHT := Lib.hid (HH1.out.keep hbt)
        clear hbt
        obtain ⟨c1, f1, l1⟩ := HHT.out.b0.rules
        go_wp2
        refine bodyPost_ret (v := .tuple #[.agg #[.int .i64 2, .int .i64 z, .string ⟨#[]⟩, .slice none 0 0, .slice none 0 0], .bool true]) (by simp only [results, Tryz.results134]; go_simp) rfl ?_
        exact ExP.bool_ (b := true) (by first | (rw [← HZ.out]; done) | (rw [← HZ.out]; rfl) | (rw [← HZ.out]; simp)) (by rw [← HOP.out, HO.out]; rfl) (five_bel HHT.out.1 (by omega) _ _ _ _ _)
set_option maxRecDepth 100000 in
set_option maxHeartbeats 4000000 in
theorem mAnd {pv : Value} {F : Nat → Prop} {env : List (List UInt8 × JV)} {w : World} {k : Int} {v : JV} {s : List UInt8} {y : EJ} {r : List EJ} {cs : List Value} {y' : EJ} (hk : KidB pv F env w y) (hk' : KidB pv F env w y') (hF : ∀ b, F b → b < w.heap.size) (hx : ER w F cs (.mk k v s (y :: y' :: r))) :
    Calls Tryz.prog 84 #[pv, .agg cs.toArray] w (ExP (eitJ false (isB (evE env y)) (isB (evE env y'))) F w) := by
  have HE := Lib.hid (fun (W : World) (h : Below w.heap.size w W) => mEither false (hk := fun W' c a b => hk W' c (h.trans (a.mono h.size)) b) (fun W' c a b => hk' W' c (h.trans (a.mono h.size)) b) (hx.bel h))
  obtain ⟨o, ho⟩ : ∃ o, eitJ false (isB (evE env y)) (isB (evE env y')) = o := ⟨_, rfl⟩
  rw [ho] at HE ⊢
  obtain ⟨k1, n1, s1, A1, na1, ca1, B1, nb1, cb1, A, ca, css, rfl, _⟩ := hx.out
  obtain ⟨nr, hnr⟩ : ∃ q, (y :: y' :: r).length = q := ⟨_, rfl⟩
  rw [hnr] at HE ⊢
  have HH0 := Lib.hid (((Held.nil w).push 28 #[.int .i64 k, .int .i64 k1, .int .i64 n1, .string s1, .slice A1 na1 ca1, .slice B1 nb1 cb1, .string ⟨s.toArray⟩, .slice A nr ca] (g := w.heap.size) rfl).push 25 #[.int .i64 0, .int .i64 0, .string ⟨#[]⟩, .slice none 0 0, .slice none 0 0] (g := w.heap.size + 1) (by simp))
  clear hk hk' hx ho hnr
  obtain ⟨c0, f0, l0⟩ := HH0.out.b1.rules
  go_enter Tryz.func84, Tryz.ntmps84
  go_wp2_with fail
  refine (HE.out _ HH0.out.1).mono ?_
  rintro e w1 ⟨cs1, v1, b1, rfl, hv1, hc1, ho1, hg1, hb1⟩
  have HR := Lib.hid hv1
  obtain ⟨k5, n5, s5, A5, na5, ca5, B5, nb5, cb5, rfl⟩ := hv1.form
  have HH1 := Lib.hid (HH0.out.keep hb1)
  have HQ := Lib.hid (And.intro hc1 (And.intro ho1 hg1))
  have HFF := Lib.hid hF
  clear hF
  clear hb1 c0 f0 l0 hv1 hc1 ho1 hg1 HE
  obtain ⟨c1, f1, l1⟩ := HH1.out.b0.rules
  go_wp2
  refine bodyPost_ret (v := .tuple #[.agg #[.int .i64 k5, .int .i64 n5, .string s5, .slice A5 na5 ca5, .slice B5 nb5 cb5], .bool b1]) (by simp only [results, Tryz.results84]; go_simp) rfl ?_
  exact ⟨_, v1, b1, rfl, HR.out.out5 HFF.out (by simp; omega) (by omega) (by simp) _ _ _ _ _, HQ.out.1, HQ.out.2.1, HQ.out.2.2, five_bel HH1.out.1 (by omega) _ _ _ _ _⟩
set_option maxRecDepth 100000 in
set_option maxHeartbeats 4000000 in
theorem mOr {pv : Value} {F : Nat → Prop} {env : List (List UInt8 × JV)} {w : World} {k : Int} {v : JV} {s : List UInt8} {y : EJ} {r : List EJ} {cs : List Value} {y' : EJ} (hk : KidB pv F env w y) (hk' : KidB pv F env w y') (hF : ∀ b, F b → b < w.heap.size) (hx : ER w F cs (.mk k v s (y :: y' :: r))) :
    Calls Tryz.prog 85 #[pv, .agg cs.toArray] w (ExP (eitJ true (isB (evE env y)) (isB (evE env y'))) F w) := by
  have HE := Lib.hid (fun (W : World) (h : Below w.heap.size w W) => mEither true (hk := fun W' c a b => hk W' c (h.trans (a.mono h.size)) b) (fun W' c a b => hk' W' c (h.trans (a.mono h.size)) b) (hx.bel h))
  obtain ⟨o, ho⟩ : ∃ o, eitJ true (isB (evE env y)) (isB (evE env y')) = o := ⟨_, rfl⟩
  rw [ho] at HE ⊢
  obtain ⟨k1, n1, s1, A1, na1, ca1, B1, nb1, cb1, A, ca, css, rfl, _⟩ := hx.out
  obtain ⟨nr, hnr⟩ : ∃ q, (y :: y' :: r).length = q := ⟨_, rfl⟩
  rw [hnr] at HE ⊢
  have HH0 := Lib.hid (((Held.nil w).push 28 #[.int .i64 k, .int .i64 k1, .int .i64 n1, .string s1, .slice A1 na1 ca1, .slice B1 nb1 cb1, .string ⟨s.toArray⟩, .slice A nr ca] (g := w.heap.size) rfl).push 25 #[.int .i64 0, .int .i64 0, .string ⟨#[]⟩, .slice none 0 0, .slice none 0 0] (g := w.heap.size + 1) (by simp))
  clear hk hk' hx ho hnr
  obtain ⟨c0, f0, l0⟩ := HH0.out.b1.rules
  go_enter Tryz.func85, Tryz.ntmps85
  go_wp2_with fail
  refine (HE.out _ HH0.out.1).mono ?_
  rintro e w1 ⟨cs1, v1, b1, rfl, hv1, hc1, ho1, hg1, hb1⟩
  have HR := Lib.hid hv1
  obtain ⟨k5, n5, s5, A5, na5, ca5, B5, nb5, cb5, rfl⟩ := hv1.form
  have HH1 := Lib.hid (HH0.out.keep hb1)
  have HQ := Lib.hid (And.intro hc1 (And.intro ho1 hg1))
  have HFF := Lib.hid hF
  clear hF
  clear hb1 c0 f0 l0 hv1 hc1 ho1 hg1 HE
  obtain ⟨c1, f1, l1⟩ := HH1.out.b0.rules
  go_wp2
  refine bodyPost_ret (v := .tuple #[.agg #[.int .i64 k5, .int .i64 n5, .string s5, .slice A5 na5 ca5, .slice B5 nb5 cb5], .bool b1]) (by simp only [results, Tryz.results85]; go_simp) rfl ?_
  exact ⟨_, v1, b1, rfl, HR.out.out5 HFF.out (by simp; omega) (by omega) (by simp) _ _ _ _ _, HQ.out.1, HQ.out.2.1, HQ.out.2.2, five_bel HH1.out.1 (by omega) _ _ _ _ _⟩
end Go.Proofs.YtgolomgmnanbpaaGreatDoor
namespace Go.Proofs.YtgolomgmnanbpaaGreatDoor
set_option linter.unusedVariables false
set_option linter.unusedSimpArgs false
open Go.RowKit
attribute [local go_sem] run_index_arr run_part_agg run_part_one run_field_agg
def fidK (k : Int) : Nat := if k = 1 then 71 else if k = 2 then 72 else if k = 3 then 73 else if k = 4 then 74 else if k = 5 then 75 else if k = 6 then 76 else if k = 7 then 77 else if k = 8 then 78 else if k = 9 then 79 else if k = 10 then 80 else if k = 11 then 81 else if k = 12 then 82 else if k = 13 then 83 else if k = 14 then 84 else 85
set_option maxRecDepth 100000 in
set_option maxHeartbeats 16000000 in
theorem mExprK {o : Option JV} {F : Nat → Prop} {w : World} {pv : Value} (k k1 n1 : Int) (s1 : ByteArray) (A1 : Option Addr) (na1 ca1 : Nat) (B1 : Option Addr) (nb1 cb1 : Nat) (t : ByteArray) (A : Option Addr) (nr ca : Nat) (hk15 : 1 ≤ k ∧ k ≤ 15) (hF : ∀ b, F b → b < w.heap.size)
    (hk : ∀ W, Below w.heap.size w W → Calls Tryz.prog (fidK k) #[pv, .agg #[.int .i64 k, .int .i64 k1, .int .i64 n1, .string s1, .slice A1 na1 ca1, .slice B1 nb1 cb1, .string t, .slice A nr ca]] W (ExP o F W)) :
    Calls Tryz.prog 41 #[pv, .agg #[.int .i64 k, .int .i64 k1, .int .i64 n1, .string s1, .slice A1 na1 ca1, .slice B1 nb1 cb1, .string t, .slice A nr ca]] w (ExP o F w) := by
  have HK := Lib.hid hk
  have HFF := Lib.hid hF
  have HH0 := Lib.hid ((((Held.nil w).push 28 #[.int .i64 k, .int .i64 k1, .int .i64 n1, .string s1, .slice A1 na1 ca1, .slice B1 nb1 cb1, .string t, .slice A nr ca] (g := w.heap.size) rfl).push 25 #[.int .i64 0, .int .i64 0, .string ⟨#[]⟩, .slice none 0 0, .slice none 0 0] (g := w.heap.size + 1) (by simp)).push 124 #[.nilFunc, .func (.func 71) #[] #[], .func (.func 72) #[] #[], .func (.func 73) #[] #[], .func (.func 74) #[] #[], .func (.func 75) #[] #[], .func (.func 76) #[] #[], .func (.func 77) #[] #[], .func (.func 78) #[] #[], .func (.func 79) #[] #[], .func (.func 80) #[] #[], .func (.func 81) #[] #[], .func (.func 82) #[] #[], .func (.func 83) #[] #[], .func (.func 84) #[] #[], .func (.func 85) #[] #[]] (g := w.heap.size + 1 + 1) (by simp))
  clear hk hF
  go_enter Tryz.func41, Tryz.ntmps41
  go_wp2_with fail
  have HX := Lib.hid HH0.out.drew
  have d0 := HH0.out.b2.cell 0
  have d1 := HH0.out.b2.cell 1
  have d2 := HH0.out.b2.cell 2
  have d3 := HH0.out.b2.cell 3
  have d4 := HH0.out.b2.cell 4
  have d5 := HH0.out.b2.cell 5
  have d6 := HH0.out.b2.cell 6
  have d7 := HH0.out.b2.cell 7
  simp at d0 d1 d2 d3 d4 d5 d6 d7
  obtain ⟨K9, hK9⟩ : ∃ q, k = q := ⟨_, rfl⟩
  rcases (by omega : k = 1 ∨ k = 2 ∨ k = 3 ∨ k = 4 ∨ k = 5 ∨ k = 6 ∨ k = 7 ∨ k = 8 ∨ k = 9 ∨ k = 10 ∨ k = 11 ∨ k = 12 ∨ k = 13 ∨ k = 14 ∨ k = 15) with rfl | rfl | rfl | rfl | rfl | rfl | rfl | rfl | rfl | rfl | rfl | rfl | rfl | rfl | rfl
  · have HKF := Lib.hid (show ∀ W, Below w.heap.size w W → Calls Tryz.prog 71 #[pv, .agg #[.int .i64 1, .int .i64 k1, .int .i64 n1, .string s1, .slice A1 na1 ca1, .slice B1 nb1 cb1, .string t, .slice A nr ca]] W (ExP o F W) from HK.out)
    have e0 := HH0.out.b0.cell 1
    simp at e0
    clear HK hk15 hK9
    go_region_held3 (fun w' => w'.cell? ⟨w.heap.size, 0, none⟩ = some (.int .i64 1) ∧ w'.cell? ⟨w.heap.size, 1, none⟩ = some (.int .i64 k1) ∧ w'.cell? ⟨w.heap.size, 2, none⟩ = some (.int .i64 n1) ∧ w'.cell? ⟨w.heap.size, 3, none⟩ = some (.string s1) ∧ w'.cell? ⟨w.heap.size, 4, none⟩ = some (.slice A1 na1 ca1) ∧ w'.cell? ⟨w.heap.size, 5, none⟩ = some (.slice B1 nb1 cb1) ∧ w'.cell? ⟨w.heap.size, 6, none⟩ = some (.string t) ∧ w'.cell? ⟨w.heap.size, 7, none⟩ = some (.slice A nr ca) ∧ w'.cell? ⟨w.heap.size + 1 + 1, 1, none⟩ = some (.func (.func 71) #[] #[])) (go_keep) ((go_at_call 71; refine (HKF.out _ HX.out.1).mono ?_; rintro e w1 ⟨cs1, v1, b1, rfl, hv1, hc1, ho1, hg1, hb1⟩; obtain ⟨k5, n5, s5, A5, na5, ca5, B5, nb5, cb5, rfl⟩ := hv1.form; have HH1 := Lib.hid (HX.out.keep hb1); have HQ := Lib.hid (And.intro hv1 (And.intro hc1 (And.intro ho1 hg1))); have d0 := HH1.out.b2.cell 0; have d1 := HH1.out.b2.cell 1; have d2 := HH1.out.b2.cell 2; have d3 := HH1.out.b2.cell 3; have d4 := HH1.out.b2.cell 4; have d5 := HH1.out.b2.cell 5; have d6 := HH1.out.b2.cell 6; have d7 := HH1.out.b2.cell 7; have e0 := HH1.out.b0.cell 1; simp at d0 d1 d2 d3 d4 d5 d6 d7 e0; obtain ⟨c9, f9, l9⟩ := HH1.out.b1.rules))
    all_goals
      go_wp2
      refine bodyPost_ret (v := .tuple #[.agg #[.int .i64 k5, .int .i64 n5, .string s5, .slice A5 na5 ca5, .slice B5 nb5 cb5], .bool b1]) (by simp only [results, Tryz.results41]; go_simp) rfl ?_
      exact ⟨_, v1, b1, rfl, HQ.out.1.out5 HFF.out (by simp; omega) (g := w.heap.size + 1) (by omega) (by simp) _ _ _ _ _, HQ.out.2.1, HQ.out.2.2.1, HQ.out.2.2.2, five_bel HH1.out.1 (by omega) _ _ _ _ _⟩
  · have HKF := Lib.hid (show ∀ W, Below w.heap.size w W → Calls Tryz.prog 72 #[pv, .agg #[.int .i64 2, .int .i64 k1, .int .i64 n1, .string s1, .slice A1 na1 ca1, .slice B1 nb1 cb1, .string t, .slice A nr ca]] W (ExP o F W) from HK.out)
    have e0 := HH0.out.b0.cell 2
    simp at e0
    clear HK hk15 hK9
    go_region_held3 (fun w' => w'.cell? ⟨w.heap.size, 0, none⟩ = some (.int .i64 2) ∧ w'.cell? ⟨w.heap.size, 1, none⟩ = some (.int .i64 k1) ∧ w'.cell? ⟨w.heap.size, 2, none⟩ = some (.int .i64 n1) ∧ w'.cell? ⟨w.heap.size, 3, none⟩ = some (.string s1) ∧ w'.cell? ⟨w.heap.size, 4, none⟩ = some (.slice A1 na1 ca1) ∧ w'.cell? ⟨w.heap.size, 5, none⟩ = some (.slice B1 nb1 cb1) ∧ w'.cell? ⟨w.heap.size, 6, none⟩ = some (.string t) ∧ w'.cell? ⟨w.heap.size, 7, none⟩ = some (.slice A nr ca) ∧ w'.cell? ⟨w.heap.size + 1 + 1, 2, none⟩ = some (.func (.func 72) #[] #[])) (go_keep) ((go_at_call 72; refine (HKF.out _ HX.out.1).mono ?_; rintro e w1 ⟨cs1, v1, b1, rfl, hv1, hc1, ho1, hg1, hb1⟩; obtain ⟨k5, n5, s5, A5, na5, ca5, B5, nb5, cb5, rfl⟩ := hv1.form; have HH1 := Lib.hid (HX.out.keep hb1); have HQ := Lib.hid (And.intro hv1 (And.intro hc1 (And.intro ho1 hg1))); have d0 := HH1.out.b2.cell 0; have d1 := HH1.out.b2.cell 1; have d2 := HH1.out.b2.cell 2; have d3 := HH1.out.b2.cell 3; have d4 := HH1.out.b2.cell 4; have d5 := HH1.out.b2.cell 5; have d6 := HH1.out.b2.cell 6; have d7 := HH1.out.b2.cell 7; have e0 := HH1.out.b0.cell 2; simp at d0 d1 d2 d3 d4 d5 d6 d7 e0; obtain ⟨c9, f9, l9⟩ := HH1.out.b1.rules))
    all_goals
      go_wp2
      refine bodyPost_ret (v := .tuple #[.agg #[.int .i64 k5, .int .i64 n5, .string s5, .slice A5 na5 ca5, .slice B5 nb5 cb5], .bool b1]) (by simp only [results, Tryz.results41]; go_simp) rfl ?_
      exact ⟨_, v1, b1, rfl, HQ.out.1.out5 HFF.out (by simp; omega) (g := w.heap.size + 1) (by omega) (by simp) _ _ _ _ _, HQ.out.2.1, HQ.out.2.2.1, HQ.out.2.2.2, five_bel HH1.out.1 (by omega) _ _ _ _ _⟩
  · have HKF := Lib.hid (show ∀ W, Below w.heap.size w W → Calls Tryz.prog 73 #[pv, .agg #[.int .i64 3, .int .i64 k1, .int .i64 n1, .string s1, .slice A1 na1 ca1, .slice B1 nb1 cb1, .string t, .slice A nr ca]] W (ExP o F W) from HK.out)
    have e0 := HH0.out.b0.cell 3
    simp at e0
    clear HK hk15 hK9
    go_region_held3 (fun w' => w'.cell? ⟨w.heap.size, 0, none⟩ = some (.int .i64 3) ∧ w'.cell? ⟨w.heap.size, 1, none⟩ = some (.int .i64 k1) ∧ w'.cell? ⟨w.heap.size, 2, none⟩ = some (.int .i64 n1) ∧ w'.cell? ⟨w.heap.size, 3, none⟩ = some (.string s1) ∧ w'.cell? ⟨w.heap.size, 4, none⟩ = some (.slice A1 na1 ca1) ∧ w'.cell? ⟨w.heap.size, 5, none⟩ = some (.slice B1 nb1 cb1) ∧ w'.cell? ⟨w.heap.size, 6, none⟩ = some (.string t) ∧ w'.cell? ⟨w.heap.size, 7, none⟩ = some (.slice A nr ca) ∧ w'.cell? ⟨w.heap.size + 1 + 1, 3, none⟩ = some (.func (.func 73) #[] #[])) (go_keep) ((go_at_call 73; refine (HKF.out _ HX.out.1).mono ?_; rintro e w1 ⟨cs1, v1, b1, rfl, hv1, hc1, ho1, hg1, hb1⟩; obtain ⟨k5, n5, s5, A5, na5, ca5, B5, nb5, cb5, rfl⟩ := hv1.form; have HH1 := Lib.hid (HX.out.keep hb1); have HQ := Lib.hid (And.intro hv1 (And.intro hc1 (And.intro ho1 hg1))); have d0 := HH1.out.b2.cell 0; have d1 := HH1.out.b2.cell 1; have d2 := HH1.out.b2.cell 2; have d3 := HH1.out.b2.cell 3; have d4 := HH1.out.b2.cell 4; have d5 := HH1.out.b2.cell 5; have d6 := HH1.out.b2.cell 6; have d7 := HH1.out.b2.cell 7; have e0 := HH1.out.b0.cell 3; simp at d0 d1 d2 d3 d4 d5 d6 d7 e0; obtain ⟨c9, f9, l9⟩ := HH1.out.b1.rules))
    all_goals
      go_wp2
      refine bodyPost_ret (v := .tuple #[.agg #[.int .i64 k5, .int .i64 n5, .string s5, .slice A5 na5 ca5, .slice B5 nb5 cb5], .bool b1]) (by simp only [results, Tryz.results41]; go_simp) rfl ?_
      exact ⟨_, v1, b1, rfl, HQ.out.1.out5 HFF.out (by simp; omega) (g := w.heap.size + 1) (by omega) (by simp) _ _ _ _ _, HQ.out.2.1, HQ.out.2.2.1, HQ.out.2.2.2, five_bel HH1.out.1 (by omega) _ _ _ _ _⟩
  · have HKF := Lib.hid (show ∀ W, Below w.heap.size w W → Calls Tryz.prog 74 #[pv, .agg #[.int .i64 4, .int .i64 k1, .int .i64 n1, .string s1, .slice A1 na1 ca1, .slice B1 nb1 cb1, .string t, .slice A nr ca]] W (ExP o F W) from HK.out)
    have e0 := HH0.out.b0.cell 4
    simp at e0
    clear HK hk15 hK9
    go_region_held3 (fun w' => w'.cell? ⟨w.heap.size, 0, none⟩ = some (.int .i64 4) ∧ w'.cell? ⟨w.heap.size, 1, none⟩ = some (.int .i64 k1) ∧ w'.cell? ⟨w.heap.size, 2, none⟩ = some (.int .i64 n1) ∧ w'.cell? ⟨w.heap.size, 3, none⟩ = some (.string s1) ∧ w'.cell? ⟨w.heap.size, 4, none⟩ = some (.slice A1 na1 ca1) ∧ w'.cell? ⟨w.heap.size, 5, none⟩ = some (.slice B1 nb1 cb1) ∧ w'.cell? ⟨w.heap.size, 6, none⟩ = some (.string t) ∧ w'.cell? ⟨w.heap.size, 7, none⟩ = some (.slice A nr ca) ∧ w'.cell? ⟨w.heap.size + 1 + 1, 4, none⟩ = some (.func (.func 74) #[] #[])) (go_keep) ((go_at_call 74; refine (HKF.out _ HX.out.1).mono ?_; rintro e w1 ⟨cs1, v1, b1, rfl, hv1, hc1, ho1, hg1, hb1⟩; obtain ⟨k5, n5, s5, A5, na5, ca5, B5, nb5, cb5, rfl⟩ := hv1.form; have HH1 := Lib.hid (HX.out.keep hb1); have HQ := Lib.hid (And.intro hv1 (And.intro hc1 (And.intro ho1 hg1))); have d0 := HH1.out.b2.cell 0; have d1 := HH1.out.b2.cell 1; have d2 := HH1.out.b2.cell 2; have d3 := HH1.out.b2.cell 3; have d4 := HH1.out.b2.cell 4; have d5 := HH1.out.b2.cell 5; have d6 := HH1.out.b2.cell 6; have d7 := HH1.out.b2.cell 7; have e0 := HH1.out.b0.cell 4; simp at d0 d1 d2 d3 d4 d5 d6 d7 e0; obtain ⟨c9, f9, l9⟩ := HH1.out.b1.rules))
    all_goals
      go_wp2
      refine bodyPost_ret (v := .tuple #[.agg #[.int .i64 k5, .int .i64 n5, .string s5, .slice A5 na5 ca5, .slice B5 nb5 cb5], .bool b1]) (by simp only [results, Tryz.results41]; go_simp) rfl ?_
      exact ⟨_, v1, b1, rfl, HQ.out.1.out5 HFF.out (by simp; omega) (g := w.heap.size + 1) (by omega) (by simp) _ _ _ _ _, HQ.out.2.1, HQ.out.2.2.1, HQ.out.2.2.2, five_bel HH1.out.1 (by omega) _ _ _ _ _⟩
  · have HKF := Lib.hid (show ∀ W, Below w.heap.size w W → Calls Tryz.prog 75 #[pv, .agg #[.int .i64 5, .int .i64 k1, .int .i64 n1, .string s1, .slice A1 na1 ca1, .slice B1 nb1 cb1, .string t, .slice A nr ca]] W (ExP o F W) from HK.out)
    have e0 := HH0.out.b0.cell 5
    simp at e0
    clear HK hk15 hK9
    go_region_held3 (fun w' => w'.cell? ⟨w.heap.size, 0, none⟩ = some (.int .i64 5) ∧ w'.cell? ⟨w.heap.size, 1, none⟩ = some (.int .i64 k1) ∧ w'.cell? ⟨w.heap.size, 2, none⟩ = some (.int .i64 n1) ∧ w'.cell? ⟨w.heap.size, 3, none⟩ = some (.string s1) ∧ w'.cell? ⟨w.heap.size, 4, none⟩ = some (.slice A1 na1 ca1) ∧ w'.cell? ⟨w.heap.size, 5, none⟩ = some (.slice B1 nb1 cb1) ∧ w'.cell? ⟨w.heap.size, 6, none⟩ = some (.string t) ∧ w'.cell? ⟨w.heap.size, 7, none⟩ = some (.slice A nr ca) ∧ w'.cell? ⟨w.heap.size + 1 + 1, 5, none⟩ = some (.func (.func 75) #[] #[])) (go_keep) ((go_at_call 75; refine (HKF.out _ HX.out.1).mono ?_; rintro e w1 ⟨cs1, v1, b1, rfl, hv1, hc1, ho1, hg1, hb1⟩; obtain ⟨k5, n5, s5, A5, na5, ca5, B5, nb5, cb5, rfl⟩ := hv1.form; have HH1 := Lib.hid (HX.out.keep hb1); have HQ := Lib.hid (And.intro hv1 (And.intro hc1 (And.intro ho1 hg1))); have d0 := HH1.out.b2.cell 0; have d1 := HH1.out.b2.cell 1; have d2 := HH1.out.b2.cell 2; have d3 := HH1.out.b2.cell 3; have d4 := HH1.out.b2.cell 4; have d5 := HH1.out.b2.cell 5; have d6 := HH1.out.b2.cell 6; have d7 := HH1.out.b2.cell 7; have e0 := HH1.out.b0.cell 5; simp at d0 d1 d2 d3 d4 d5 d6 d7 e0; obtain ⟨c9, f9, l9⟩ := HH1.out.b1.rules))
    all_goals
      go_wp2
      refine bodyPost_ret (v := .tuple #[.agg #[.int .i64 k5, .int .i64 n5, .string s5, .slice A5 na5 ca5, .slice B5 nb5 cb5], .bool b1]) (by simp only [results, Tryz.results41]; go_simp) rfl ?_
      exact ⟨_, v1, b1, rfl, HQ.out.1.out5 HFF.out (by simp; omega) (g := w.heap.size + 1) (by omega) (by simp) _ _ _ _ _, HQ.out.2.1, HQ.out.2.2.1, HQ.out.2.2.2, five_bel HH1.out.1 (by omega) _ _ _ _ _⟩
  · have HKF := Lib.hid (show ∀ W, Below w.heap.size w W → Calls Tryz.prog 76 #[pv, .agg #[.int .i64 6, .int .i64 k1, .int .i64 n1, .string s1, .slice A1 na1 ca1, .slice B1 nb1 cb1, .string t, .slice A nr ca]] W (ExP o F W) from HK.out)
    have e0 := HH0.out.b0.cell 6
    simp at e0
    clear HK hk15 hK9
    go_region_held3 (fun w' => w'.cell? ⟨w.heap.size, 0, none⟩ = some (.int .i64 6) ∧ w'.cell? ⟨w.heap.size, 1, none⟩ = some (.int .i64 k1) ∧ w'.cell? ⟨w.heap.size, 2, none⟩ = some (.int .i64 n1) ∧ w'.cell? ⟨w.heap.size, 3, none⟩ = some (.string s1) ∧ w'.cell? ⟨w.heap.size, 4, none⟩ = some (.slice A1 na1 ca1) ∧ w'.cell? ⟨w.heap.size, 5, none⟩ = some (.slice B1 nb1 cb1) ∧ w'.cell? ⟨w.heap.size, 6, none⟩ = some (.string t) ∧ w'.cell? ⟨w.heap.size, 7, none⟩ = some (.slice A nr ca) ∧ w'.cell? ⟨w.heap.size + 1 + 1, 6, none⟩ = some (.func (.func 76) #[] #[])) (go_keep) ((go_at_call 76; refine (HKF.out _ HX.out.1).mono ?_; rintro e w1 ⟨cs1, v1, b1, rfl, hv1, hc1, ho1, hg1, hb1⟩; obtain ⟨k5, n5, s5, A5, na5, ca5, B5, nb5, cb5, rfl⟩ := hv1.form; have HH1 := Lib.hid (HX.out.keep hb1); have HQ := Lib.hid (And.intro hv1 (And.intro hc1 (And.intro ho1 hg1))); have d0 := HH1.out.b2.cell 0; have d1 := HH1.out.b2.cell 1; have d2 := HH1.out.b2.cell 2; have d3 := HH1.out.b2.cell 3; have d4 := HH1.out.b2.cell 4; have d5 := HH1.out.b2.cell 5; have d6 := HH1.out.b2.cell 6; have d7 := HH1.out.b2.cell 7; have e0 := HH1.out.b0.cell 6; simp at d0 d1 d2 d3 d4 d5 d6 d7 e0; obtain ⟨c9, f9, l9⟩ := HH1.out.b1.rules))
    all_goals
      go_wp2
      refine bodyPost_ret (v := .tuple #[.agg #[.int .i64 k5, .int .i64 n5, .string s5, .slice A5 na5 ca5, .slice B5 nb5 cb5], .bool b1]) (by simp only [results, Tryz.results41]; go_simp) rfl ?_
      exact ⟨_, v1, b1, rfl, HQ.out.1.out5 HFF.out (by simp; omega) (g := w.heap.size + 1) (by omega) (by simp) _ _ _ _ _, HQ.out.2.1, HQ.out.2.2.1, HQ.out.2.2.2, five_bel HH1.out.1 (by omega) _ _ _ _ _⟩
  · have HKF := Lib.hid (show ∀ W, Below w.heap.size w W → Calls Tryz.prog 77 #[pv, .agg #[.int .i64 7, .int .i64 k1, .int .i64 n1, .string s1, .slice A1 na1 ca1, .slice B1 nb1 cb1, .string t, .slice A nr ca]] W (ExP o F W) from HK.out)
    have e0 := HH0.out.b0.cell 7
    simp at e0
    clear HK hk15 hK9
    go_region_held3 (fun w' => w'.cell? ⟨w.heap.size, 0, none⟩ = some (.int .i64 7) ∧ w'.cell? ⟨w.heap.size, 1, none⟩ = some (.int .i64 k1) ∧ w'.cell? ⟨w.heap.size, 2, none⟩ = some (.int .i64 n1) ∧ w'.cell? ⟨w.heap.size, 3, none⟩ = some (.string s1) ∧ w'.cell? ⟨w.heap.size, 4, none⟩ = some (.slice A1 na1 ca1) ∧ w'.cell? ⟨w.heap.size, 5, none⟩ = some (.slice B1 nb1 cb1) ∧ w'.cell? ⟨w.heap.size, 6, none⟩ = some (.string t) ∧ w'.cell? ⟨w.heap.size, 7, none⟩ = some (.slice A nr ca) ∧ w'.cell? ⟨w.heap.size + 1 + 1, 7, none⟩ = some (.func (.func 77) #[] #[])) (go_keep) ((go_at_call 77; refine (HKF.out _ HX.out.1).mono ?_; rintro e w1 ⟨cs1, v1, b1, rfl, hv1, hc1, ho1, hg1, hb1⟩; obtain ⟨k5, n5, s5, A5, na5, ca5, B5, nb5, cb5, rfl⟩ := hv1.form; have HH1 := Lib.hid (HX.out.keep hb1); have HQ := Lib.hid (And.intro hv1 (And.intro hc1 (And.intro ho1 hg1))); have d0 := HH1.out.b2.cell 0; have d1 := HH1.out.b2.cell 1; have d2 := HH1.out.b2.cell 2; have d3 := HH1.out.b2.cell 3; have d4 := HH1.out.b2.cell 4; have d5 := HH1.out.b2.cell 5; have d6 := HH1.out.b2.cell 6; have d7 := HH1.out.b2.cell 7; have e0 := HH1.out.b0.cell 7; simp at d0 d1 d2 d3 d4 d5 d6 d7 e0; obtain ⟨c9, f9, l9⟩ := HH1.out.b1.rules))
    all_goals
      go_wp2
      refine bodyPost_ret (v := .tuple #[.agg #[.int .i64 k5, .int .i64 n5, .string s5, .slice A5 na5 ca5, .slice B5 nb5 cb5], .bool b1]) (by simp only [results, Tryz.results41]; go_simp) rfl ?_
      exact ⟨_, v1, b1, rfl, HQ.out.1.out5 HFF.out (by simp; omega) (g := w.heap.size + 1) (by omega) (by simp) _ _ _ _ _, HQ.out.2.1, HQ.out.2.2.1, HQ.out.2.2.2, five_bel HH1.out.1 (by omega) _ _ _ _ _⟩
  · have HKF := Lib.hid (show ∀ W, Below w.heap.size w W → Calls Tryz.prog 78 #[pv, .agg #[.int .i64 8, .int .i64 k1, .int .i64 n1, .string s1, .slice A1 na1 ca1, .slice B1 nb1 cb1, .string t, .slice A nr ca]] W (ExP o F W) from HK.out)
    have e0 := HH0.out.b0.cell 8
    simp at e0
    clear HK hk15 hK9
    go_region_held3 (fun w' => w'.cell? ⟨w.heap.size, 0, none⟩ = some (.int .i64 8) ∧ w'.cell? ⟨w.heap.size, 1, none⟩ = some (.int .i64 k1) ∧ w'.cell? ⟨w.heap.size, 2, none⟩ = some (.int .i64 n1) ∧ w'.cell? ⟨w.heap.size, 3, none⟩ = some (.string s1) ∧ w'.cell? ⟨w.heap.size, 4, none⟩ = some (.slice A1 na1 ca1) ∧ w'.cell? ⟨w.heap.size, 5, none⟩ = some (.slice B1 nb1 cb1) ∧ w'.cell? ⟨w.heap.size, 6, none⟩ = some (.string t) ∧ w'.cell? ⟨w.heap.size, 7, none⟩ = some (.slice A nr ca) ∧ w'.cell? ⟨w.heap.size + 1 + 1, 8, none⟩ = some (.func (.func 78) #[] #[])) (go_keep) ((go_at_call 78; refine (HKF.out _ HX.out.1).mono ?_; rintro e w1 ⟨cs1, v1, b1, rfl, hv1, hc1, ho1, hg1, hb1⟩; obtain ⟨k5, n5, s5, A5, na5, ca5, B5, nb5, cb5, rfl⟩ := hv1.form; have HH1 := Lib.hid (HX.out.keep hb1); have HQ := Lib.hid (And.intro hv1 (And.intro hc1 (And.intro ho1 hg1))); have d0 := HH1.out.b2.cell 0; have d1 := HH1.out.b2.cell 1; have d2 := HH1.out.b2.cell 2; have d3 := HH1.out.b2.cell 3; have d4 := HH1.out.b2.cell 4; have d5 := HH1.out.b2.cell 5; have d6 := HH1.out.b2.cell 6; have d7 := HH1.out.b2.cell 7; have e0 := HH1.out.b0.cell 8; simp at d0 d1 d2 d3 d4 d5 d6 d7 e0; obtain ⟨c9, f9, l9⟩ := HH1.out.b1.rules))
    all_goals
      go_wp2
      refine bodyPost_ret (v := .tuple #[.agg #[.int .i64 k5, .int .i64 n5, .string s5, .slice A5 na5 ca5, .slice B5 nb5 cb5], .bool b1]) (by simp only [results, Tryz.results41]; go_simp) rfl ?_
      exact ⟨_, v1, b1, rfl, HQ.out.1.out5 HFF.out (by simp; omega) (g := w.heap.size + 1) (by omega) (by simp) _ _ _ _ _, HQ.out.2.1, HQ.out.2.2.1, HQ.out.2.2.2, five_bel HH1.out.1 (by omega) _ _ _ _ _⟩
  · have HKF := Lib.hid (show ∀ W, Below w.heap.size w W → Calls Tryz.prog 79 #[pv, .agg #[.int .i64 9, .int .i64 k1, .int .i64 n1, .string s1, .slice A1 na1 ca1, .slice B1 nb1 cb1, .string t, .slice A nr ca]] W (ExP o F W) from HK.out)
    have e0 := HH0.out.b0.cell 9
    simp at e0
    clear HK hk15 hK9
    go_region_held3 (fun w' => w'.cell? ⟨w.heap.size, 0, none⟩ = some (.int .i64 9) ∧ w'.cell? ⟨w.heap.size, 1, none⟩ = some (.int .i64 k1) ∧ w'.cell? ⟨w.heap.size, 2, none⟩ = some (.int .i64 n1) ∧ w'.cell? ⟨w.heap.size, 3, none⟩ = some (.string s1) ∧ w'.cell? ⟨w.heap.size, 4, none⟩ = some (.slice A1 na1 ca1) ∧ w'.cell? ⟨w.heap.size, 5, none⟩ = some (.slice B1 nb1 cb1) ∧ w'.cell? ⟨w.heap.size, 6, none⟩ = some (.string t) ∧ w'.cell? ⟨w.heap.size, 7, none⟩ = some (.slice A nr ca) ∧ w'.cell? ⟨w.heap.size + 1 + 1, 9, none⟩ = some (.func (.func 79) #[] #[])) (go_keep) ((go_at_call 79; refine (HKF.out _ HX.out.1).mono ?_; rintro e w1 ⟨cs1, v1, b1, rfl, hv1, hc1, ho1, hg1, hb1⟩; obtain ⟨k5, n5, s5, A5, na5, ca5, B5, nb5, cb5, rfl⟩ := hv1.form; have HH1 := Lib.hid (HX.out.keep hb1); have HQ := Lib.hid (And.intro hv1 (And.intro hc1 (And.intro ho1 hg1))); have d0 := HH1.out.b2.cell 0; have d1 := HH1.out.b2.cell 1; have d2 := HH1.out.b2.cell 2; have d3 := HH1.out.b2.cell 3; have d4 := HH1.out.b2.cell 4; have d5 := HH1.out.b2.cell 5; have d6 := HH1.out.b2.cell 6; have d7 := HH1.out.b2.cell 7; have e0 := HH1.out.b0.cell 9; simp at d0 d1 d2 d3 d4 d5 d6 d7 e0; obtain ⟨c9, f9, l9⟩ := HH1.out.b1.rules))
    all_goals
      go_wp2
      refine bodyPost_ret (v := .tuple #[.agg #[.int .i64 k5, .int .i64 n5, .string s5, .slice A5 na5 ca5, .slice B5 nb5 cb5], .bool b1]) (by simp only [results, Tryz.results41]; go_simp) rfl ?_
      exact ⟨_, v1, b1, rfl, HQ.out.1.out5 HFF.out (by simp; omega) (g := w.heap.size + 1) (by omega) (by simp) _ _ _ _ _, HQ.out.2.1, HQ.out.2.2.1, HQ.out.2.2.2, five_bel HH1.out.1 (by omega) _ _ _ _ _⟩
  · have HKF := Lib.hid (show ∀ W, Below w.heap.size w W → Calls Tryz.prog 80 #[pv, .agg #[.int .i64 10, .int .i64 k1, .int .i64 n1, .string s1, .slice A1 na1 ca1, .slice B1 nb1 cb1, .string t, .slice A nr ca]] W (ExP o F W) from HK.out)
    have e0 := HH0.out.b0.cell 10
    simp at e0
    clear HK hk15 hK9
    go_region_held3 (fun w' => w'.cell? ⟨w.heap.size, 0, none⟩ = some (.int .i64 10) ∧ w'.cell? ⟨w.heap.size, 1, none⟩ = some (.int .i64 k1) ∧ w'.cell? ⟨w.heap.size, 2, none⟩ = some (.int .i64 n1) ∧ w'.cell? ⟨w.heap.size, 3, none⟩ = some (.string s1) ∧ w'.cell? ⟨w.heap.size, 4, none⟩ = some (.slice A1 na1 ca1) ∧ w'.cell? ⟨w.heap.size, 5, none⟩ = some (.slice B1 nb1 cb1) ∧ w'.cell? ⟨w.heap.size, 6, none⟩ = some (.string t) ∧ w'.cell? ⟨w.heap.size, 7, none⟩ = some (.slice A nr ca) ∧ w'.cell? ⟨w.heap.size + 1 + 1, 10, none⟩ = some (.func (.func 80) #[] #[])) (go_keep) ((go_at_call 80; refine (HKF.out _ HX.out.1).mono ?_; rintro e w1 ⟨cs1, v1, b1, rfl, hv1, hc1, ho1, hg1, hb1⟩; obtain ⟨k5, n5, s5, A5, na5, ca5, B5, nb5, cb5, rfl⟩ := hv1.form; have HH1 := Lib.hid (HX.out.keep hb1); have HQ := Lib.hid (And.intro hv1 (And.intro hc1 (And.intro ho1 hg1))); have d0 := HH1.out.b2.cell 0; have d1 := HH1.out.b2.cell 1; have d2 := HH1.out.b2.cell 2; have d3 := HH1.out.b2.cell 3; have d4 := HH1.out.b2.cell 4; have d5 := HH1.out.b2.cell 5; have d6 := HH1.out.b2.cell 6; have d7 := HH1.out.b2.cell 7; have e0 := HH1.out.b0.cell 10; simp at d0 d1 d2 d3 d4 d5 d6 d7 e0; obtain ⟨c9, f9, l9⟩ := HH1.out.b1.rules))
    all_goals
      go_wp2
      refine bodyPost_ret (v := .tuple #[.agg #[.int .i64 k5, .int .i64 n5, .string s5, .slice A5 na5 ca5, .slice B5 nb5 cb5], .bool b1]) (by simp only [results, Tryz.results41]; go_simp) rfl ?_
      exact ⟨_, v1, b1, rfl, HQ.out.1.out5 HFF.out (by simp; omega) (g := w.heap.size + 1) (by omega) (by simp) _ _ _ _ _, HQ.out.2.1, HQ.out.2.2.1, HQ.out.2.2.2, five_bel HH1.out.1 (by omega) _ _ _ _ _⟩
  · have HKF := Lib.hid (show ∀ W, Below w.heap.size w W → Calls Tryz.prog 81 #[pv, .agg #[.int .i64 11, .int .i64 k1, .int .i64 n1, .string s1, .slice A1 na1 ca1, .slice B1 nb1 cb1, .string t, .slice A nr ca]] W (ExP o F W) from HK.out)
    have e0 := HH0.out.b0.cell 11
    simp at e0
    clear HK hk15 hK9
    go_region_held3 (fun w' => w'.cell? ⟨w.heap.size, 0, none⟩ = some (.int .i64 11) ∧ w'.cell? ⟨w.heap.size, 1, none⟩ = some (.int .i64 k1) ∧ w'.cell? ⟨w.heap.size, 2, none⟩ = some (.int .i64 n1) ∧ w'.cell? ⟨w.heap.size, 3, none⟩ = some (.string s1) ∧ w'.cell? ⟨w.heap.size, 4, none⟩ = some (.slice A1 na1 ca1) ∧ w'.cell? ⟨w.heap.size, 5, none⟩ = some (.slice B1 nb1 cb1) ∧ w'.cell? ⟨w.heap.size, 6, none⟩ = some (.string t) ∧ w'.cell? ⟨w.heap.size, 7, none⟩ = some (.slice A nr ca) ∧ w'.cell? ⟨w.heap.size + 1 + 1, 11, none⟩ = some (.func (.func 81) #[] #[])) (go_keep) ((go_at_call 81; refine (HKF.out _ HX.out.1).mono ?_; rintro e w1 ⟨cs1, v1, b1, rfl, hv1, hc1, ho1, hg1, hb1⟩; obtain ⟨k5, n5, s5, A5, na5, ca5, B5, nb5, cb5, rfl⟩ := hv1.form; have HH1 := Lib.hid (HX.out.keep hb1); have HQ := Lib.hid (And.intro hv1 (And.intro hc1 (And.intro ho1 hg1))); have d0 := HH1.out.b2.cell 0; have d1 := HH1.out.b2.cell 1; have d2 := HH1.out.b2.cell 2; have d3 := HH1.out.b2.cell 3; have d4 := HH1.out.b2.cell 4; have d5 := HH1.out.b2.cell 5; have d6 := HH1.out.b2.cell 6; have d7 := HH1.out.b2.cell 7; have e0 := HH1.out.b0.cell 11; simp at d0 d1 d2 d3 d4 d5 d6 d7 e0; obtain ⟨c9, f9, l9⟩ := HH1.out.b1.rules))
    all_goals
      go_wp2
      refine bodyPost_ret (v := .tuple #[.agg #[.int .i64 k5, .int .i64 n5, .string s5, .slice A5 na5 ca5, .slice B5 nb5 cb5], .bool b1]) (by simp only [results, Tryz.results41]; go_simp) rfl ?_
      exact ⟨_, v1, b1, rfl, HQ.out.1.out5 HFF.out (by simp; omega) (g := w.heap.size + 1) (by omega) (by simp) _ _ _ _ _, HQ.out.2.1, HQ.out.2.2.1, HQ.out.2.2.2, five_bel HH1.out.1 (by omega) _ _ _ _ _⟩
  · have HKF := Lib.hid (show ∀ W, Below w.heap.size w W → Calls Tryz.prog 82 #[pv, .agg #[.int .i64 12, .int .i64 k1, .int .i64 n1, .string s1, .slice A1 na1 ca1, .slice B1 nb1 cb1, .string t, .slice A nr ca]] W (ExP o F W) from HK.out)
    have e0 := HH0.out.b0.cell 12
    simp at e0
    clear HK hk15 hK9
    go_region_held3 (fun w' => w'.cell? ⟨w.heap.size, 0, none⟩ = some (.int .i64 12) ∧ w'.cell? ⟨w.heap.size, 1, none⟩ = some (.int .i64 k1) ∧ w'.cell? ⟨w.heap.size, 2, none⟩ = some (.int .i64 n1) ∧ w'.cell? ⟨w.heap.size, 3, none⟩ = some (.string s1) ∧ w'.cell? ⟨w.heap.size, 4, none⟩ = some (.slice A1 na1 ca1) ∧ w'.cell? ⟨w.heap.size, 5, none⟩ = some (.slice B1 nb1 cb1) ∧ w'.cell? ⟨w.heap.size, 6, none⟩ = some (.string t) ∧ w'.cell? ⟨w.heap.size, 7, none⟩ = some (.slice A nr ca) ∧ w'.cell? ⟨w.heap.size + 1 + 1, 12, none⟩ = some (.func (.func 82) #[] #[])) (go_keep) ((go_at_call 82; refine (HKF.out _ HX.out.1).mono ?_; rintro e w1 ⟨cs1, v1, b1, rfl, hv1, hc1, ho1, hg1, hb1⟩; obtain ⟨k5, n5, s5, A5, na5, ca5, B5, nb5, cb5, rfl⟩ := hv1.form; have HH1 := Lib.hid (HX.out.keep hb1); have HQ := Lib.hid (And.intro hv1 (And.intro hc1 (And.intro ho1 hg1))); have d0 := HH1.out.b2.cell 0; have d1 := HH1.out.b2.cell 1; have d2 := HH1.out.b2.cell 2; have d3 := HH1.out.b2.cell 3; have d4 := HH1.out.b2.cell 4; have d5 := HH1.out.b2.cell 5; have d6 := HH1.out.b2.cell 6; have d7 := HH1.out.b2.cell 7; have e0 := HH1.out.b0.cell 12; simp at d0 d1 d2 d3 d4 d5 d6 d7 e0; obtain ⟨c9, f9, l9⟩ := HH1.out.b1.rules))
    all_goals
      go_wp2
      refine bodyPost_ret (v := .tuple #[.agg #[.int .i64 k5, .int .i64 n5, .string s5, .slice A5 na5 ca5, .slice B5 nb5 cb5], .bool b1]) (by simp only [results, Tryz.results41]; go_simp) rfl ?_
      exact ⟨_, v1, b1, rfl, HQ.out.1.out5 HFF.out (by simp; omega) (g := w.heap.size + 1) (by omega) (by simp) _ _ _ _ _, HQ.out.2.1, HQ.out.2.2.1, HQ.out.2.2.2, five_bel HH1.out.1 (by omega) _ _ _ _ _⟩
  · have HKF := Lib.hid (show ∀ W, Below w.heap.size w W → Calls Tryz.prog 83 #[pv, .agg #[.int .i64 13, .int .i64 k1, .int .i64 n1, .string s1, .slice A1 na1 ca1, .slice B1 nb1 cb1, .string t, .slice A nr ca]] W (ExP o F W) from HK.out)
    have e0 := HH0.out.b0.cell 13
    simp at e0
    clear HK hk15 hK9
    go_region_held3 (fun w' => w'.cell? ⟨w.heap.size, 0, none⟩ = some (.int .i64 13) ∧ w'.cell? ⟨w.heap.size, 1, none⟩ = some (.int .i64 k1) ∧ w'.cell? ⟨w.heap.size, 2, none⟩ = some (.int .i64 n1) ∧ w'.cell? ⟨w.heap.size, 3, none⟩ = some (.string s1) ∧ w'.cell? ⟨w.heap.size, 4, none⟩ = some (.slice A1 na1 ca1) ∧ w'.cell? ⟨w.heap.size, 5, none⟩ = some (.slice B1 nb1 cb1) ∧ w'.cell? ⟨w.heap.size, 6, none⟩ = some (.string t) ∧ w'.cell? ⟨w.heap.size, 7, none⟩ = some (.slice A nr ca) ∧ w'.cell? ⟨w.heap.size + 1 + 1, 13, none⟩ = some (.func (.func 83) #[] #[])) (go_keep) ((go_at_call 83; refine (HKF.out _ HX.out.1).mono ?_; rintro e w1 ⟨cs1, v1, b1, rfl, hv1, hc1, ho1, hg1, hb1⟩; obtain ⟨k5, n5, s5, A5, na5, ca5, B5, nb5, cb5, rfl⟩ := hv1.form; have HH1 := Lib.hid (HX.out.keep hb1); have HQ := Lib.hid (And.intro hv1 (And.intro hc1 (And.intro ho1 hg1))); have d0 := HH1.out.b2.cell 0; have d1 := HH1.out.b2.cell 1; have d2 := HH1.out.b2.cell 2; have d3 := HH1.out.b2.cell 3; have d4 := HH1.out.b2.cell 4; have d5 := HH1.out.b2.cell 5; have d6 := HH1.out.b2.cell 6; have d7 := HH1.out.b2.cell 7; have e0 := HH1.out.b0.cell 13; simp at d0 d1 d2 d3 d4 d5 d6 d7 e0; obtain ⟨c9, f9, l9⟩ := HH1.out.b1.rules))
    all_goals
      go_wp2
      refine bodyPost_ret (v := .tuple #[.agg #[.int .i64 k5, .int .i64 n5, .string s5, .slice A5 na5 ca5, .slice B5 nb5 cb5], .bool b1]) (by simp only [results, Tryz.results41]; go_simp) rfl ?_
      exact ⟨_, v1, b1, rfl, HQ.out.1.out5 HFF.out (by simp; omega) (g := w.heap.size + 1) (by omega) (by simp) _ _ _ _ _, HQ.out.2.1, HQ.out.2.2.1, HQ.out.2.2.2, five_bel HH1.out.1 (by omega) _ _ _ _ _⟩
  · have HKF := Lib.hid (show ∀ W, Below w.heap.size w W → Calls Tryz.prog 84 #[pv, .agg #[.int .i64 14, .int .i64 k1, .int .i64 n1, .string s1, .slice A1 na1 ca1, .slice B1 nb1 cb1, .string t, .slice A nr ca]] W (ExP o F W) from HK.out)
    have e0 := HH0.out.b0.cell 14
    simp at e0
    clear HK hk15 hK9
    go_region_held3 (fun w' => w'.cell? ⟨w.heap.size, 0, none⟩ = some (.int .i64 14) ∧ w'.cell? ⟨w.heap.size, 1, none⟩ = some (.int .i64 k1) ∧ w'.cell? ⟨w.heap.size, 2, none⟩ = some (.int .i64 n1) ∧ w'.cell? ⟨w.heap.size, 3, none⟩ = some (.string s1) ∧ w'.cell? ⟨w.heap.size, 4, none⟩ = some (.slice A1 na1 ca1) ∧ w'.cell? ⟨w.heap.size, 5, none⟩ = some (.slice B1 nb1 cb1) ∧ w'.cell? ⟨w.heap.size, 6, none⟩ = some (.string t) ∧ w'.cell? ⟨w.heap.size, 7, none⟩ = some (.slice A nr ca) ∧ w'.cell? ⟨w.heap.size + 1 + 1, 14, none⟩ = some (.func (.func 84) #[] #[])) (go_keep) ((go_at_call 84; refine (HKF.out _ HX.out.1).mono ?_; rintro e w1 ⟨cs1, v1, b1, rfl, hv1, hc1, ho1, hg1, hb1⟩; obtain ⟨k5, n5, s5, A5, na5, ca5, B5, nb5, cb5, rfl⟩ := hv1.form; have HH1 := Lib.hid (HX.out.keep hb1); have HQ := Lib.hid (And.intro hv1 (And.intro hc1 (And.intro ho1 hg1))); have d0 := HH1.out.b2.cell 0; have d1 := HH1.out.b2.cell 1; have d2 := HH1.out.b2.cell 2; have d3 := HH1.out.b2.cell 3; have d4 := HH1.out.b2.cell 4; have d5 := HH1.out.b2.cell 5; have d6 := HH1.out.b2.cell 6; have d7 := HH1.out.b2.cell 7; have e0 := HH1.out.b0.cell 14; simp at d0 d1 d2 d3 d4 d5 d6 d7 e0; obtain ⟨c9, f9, l9⟩ := HH1.out.b1.rules))
    all_goals
      go_wp2
      refine bodyPost_ret (v := .tuple #[.agg #[.int .i64 k5, .int .i64 n5, .string s5, .slice A5 na5 ca5, .slice B5 nb5 cb5], .bool b1]) (by simp only [results, Tryz.results41]; go_simp) rfl ?_
      exact ⟨_, v1, b1, rfl, HQ.out.1.out5 HFF.out (by simp; omega) (g := w.heap.size + 1) (by omega) (by simp) _ _ _ _ _, HQ.out.2.1, HQ.out.2.2.1, HQ.out.2.2.2, five_bel HH1.out.1 (by omega) _ _ _ _ _⟩
  · have HKF := Lib.hid (show ∀ W, Below w.heap.size w W → Calls Tryz.prog 85 #[pv, .agg #[.int .i64 15, .int .i64 k1, .int .i64 n1, .string s1, .slice A1 na1 ca1, .slice B1 nb1 cb1, .string t, .slice A nr ca]] W (ExP o F W) from HK.out)
    have e0 := HH0.out.b0.cell 15
    simp at e0
    clear HK hk15 hK9
    go_region_held3 (fun w' => w'.cell? ⟨w.heap.size, 0, none⟩ = some (.int .i64 15) ∧ w'.cell? ⟨w.heap.size, 1, none⟩ = some (.int .i64 k1) ∧ w'.cell? ⟨w.heap.size, 2, none⟩ = some (.int .i64 n1) ∧ w'.cell? ⟨w.heap.size, 3, none⟩ = some (.string s1) ∧ w'.cell? ⟨w.heap.size, 4, none⟩ = some (.slice A1 na1 ca1) ∧ w'.cell? ⟨w.heap.size, 5, none⟩ = some (.slice B1 nb1 cb1) ∧ w'.cell? ⟨w.heap.size, 6, none⟩ = some (.string t) ∧ w'.cell? ⟨w.heap.size, 7, none⟩ = some (.slice A nr ca) ∧ w'.cell? ⟨w.heap.size + 1 + 1, 15, none⟩ = some (.func (.func 85) #[] #[])) (go_keep) ((go_at_call 85; refine (HKF.out _ HX.out.1).mono ?_; rintro e w1 ⟨cs1, v1, b1, rfl, hv1, hc1, ho1, hg1, hb1⟩; obtain ⟨k5, n5, s5, A5, na5, ca5, B5, nb5, cb5, rfl⟩ := hv1.form; have HH1 := Lib.hid (HX.out.keep hb1); have HQ := Lib.hid (And.intro hv1 (And.intro hc1 (And.intro ho1 hg1))); have d0 := HH1.out.b2.cell 0; have d1 := HH1.out.b2.cell 1; have d2 := HH1.out.b2.cell 2; have d3 := HH1.out.b2.cell 3; have d4 := HH1.out.b2.cell 4; have d5 := HH1.out.b2.cell 5; have d6 := HH1.out.b2.cell 6; have d7 := HH1.out.b2.cell 7; have e0 := HH1.out.b0.cell 15; simp at d0 d1 d2 d3 d4 d5 d6 d7 e0; obtain ⟨c9, f9, l9⟩ := HH1.out.b1.rules))
    all_goals
      go_wp2
      refine bodyPost_ret (v := .tuple #[.agg #[.int .i64 k5, .int .i64 n5, .string s5, .slice A5 na5 ca5, .slice B5 nb5 cb5], .bool b1]) (by simp only [results, Tryz.results41]; go_simp) rfl ?_
      exact ⟨_, v1, b1, rfl, HQ.out.1.out5 HFF.out (by simp; omega) (g := w.heap.size + 1) (by omega) (by simp) _ _ _ _ _, HQ.out.2.1, HQ.out.2.2.1, HQ.out.2.2.2, five_bel HH1.out.1 (by omega) _ _ _ _ _⟩
end Go.Proofs.YtgolomgmnanbpaaGreatDoor
