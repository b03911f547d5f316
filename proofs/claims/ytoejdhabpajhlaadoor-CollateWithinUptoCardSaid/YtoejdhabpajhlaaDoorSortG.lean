/- The walk of collate.Sort: make, copy, slices.SortFunc with compare, of a row of right values. -/
import Derived.Test.YtoejdhabpajhlaaDoorCmp2G
import Derived.Test.YtoejdhabpajhlaaDoorToldG
import Derived.Shelf.SlSortCmp.WholeK
import Derived.Shelf.Lay
import Derived.Ground.SlsfProg
import Derived.Laws.MakeOwn
import Derived.Laws.CopyRow
import Derived.Laws.CopyOwn
namespace Go.Proofs
open Go.Shelf
shelf_lay_g SlLaysF0.n6 Slsf 6 at Tryd 47 as Tryd.sortV
end Go.Proofs
namespace Go.Proofs.YtoejdhabpajhlaaDoor
set_option linter.unusedVariables false
set_option linter.unusedSimpArgs false
open Go.RowKit Go.Shelf
attribute [local go_sem] run_index_arr run_part_agg run_part_one run_field_agg

theorem gd_null : gd (.mk 1 0 [] [] []) := by unfold gd good; simp [goodJ, goodL, goodA, nodesJ, nodesL]
theorem came_null : Came (.mk 1 0 [] [] []) := ⟨by unfold inJ inL iw; decide, by unfold bulkJ bulkK bulkL; decide⟩
/-- an element, while the row at g is sorted -/
abbrev Elt (w : World) (g : Nat) := {p : List Value × JV // VR w (fun b => b ≠ g) p.1 p.2 ∧ gd p.2 ∧ Came p.2}
instance instElt (w : World) (g : Nat) : Inhabited (Elt w g) := ⟨⟨([.int .i64 1, .int .i64 0, .string ⟨#[]⟩, .slice none 0 0, .slice none 0 0], .mk 1 0 [] [] []), VR.atom 1 0 [], gd_null, came_null⟩⟩
def encE {w : World} {g : Nat} (x : Elt w g) : List Value := x.1.1
def cfE {w : World} {g : Nat} (x y : Elt w g) : Int := cmpJ x.1.2 y.1.2
theorem lt_neg {a b : JV} : cmpJ a b < 0 ↔ cmpJ a b = -1 := by rcases cmpJ_3 a b with e | e | e <;> rw [e] <;> decide
theorem swoE (w : World) (g : Nat) : Sort.SWO (ltOf (cfE (w := w) (g := g))) where
  irrefl := fun x => by unfold ltOf cfE; rw [cmpJ_self]; rfl
  trans := fun x y z h1 h2 => by
    unfold ltOf cfE at *
    rw [decide_eq_true_eq, lt_neg] at *
    exact cmpJ_trans x.2.2.1.j y.2.2.1.j z.2.2.1.j h1 h2
  ntrans := fun x y z h1 h2 => by
    unfold ltOf cfE at *
    rw [decide_eq_false_iff_not] at *
    have a1 := cmpJ_anti x.2.2.1.j y.2.2.1.j
    have a2 := cmpJ_anti y.2.2.1.j z.2.2.1.j
    have a3 := cmpJ_anti x.2.2.1.j z.2.2.1.j
    have := cmp_le_trans z.2.2.1 y.2.2.1 x.2.2.1 (by omega) (by omega)
    omega
theorem modify_other (h : Array Obj) (g b : Nat) (f : Obj → Obj) (hne : b ≠ g) : (h.modify g f)[b]? = h[b]? := by
  rw [Array.getElem?_modify]
  rw [if_neg (fun e => hne e.symm)]
theorem sortW_keep {α : Type} [Inhabited α] (enc : α → List Value) (k : Nat) (w : World) (g m : Nat) (dk : Array α) (os : Array Obj) : KeepF (fun b => b ≠ g) w (sortWorldK enc k w g 0 m dk os) := by
  unfold sortWorldK Sort.putRowK Sort.putRow Sort.mapBlock Sort.grow Sort.ahead
  refine ⟨by simp, fun b hb hlt => ?_⟩
  show ((w.heap.modify g _) ++ os)[b]? = _
  rw [Array.getElem?_append_left (by simpa using hlt), modify_other _ _ _ _ hb]
theorem sortW_below {α : Type} [Inhabited α] (enc : α → List Value) (k : Nat) (w : World) (g m : Nat) (dk : Array α) (os : Array Obj) {B : Nat} (hB : B ≤ g) (hBw : B ≤ w.heap.size) : Below B w (sortWorldK enc k w g 0 m dk os) := by
  have hk := sortW_keep enc k w g m dk os
  exact ⟨rfl, rfl, rfl, hk.1, fun b hb => hk.2 b (by omega) (by omega)⟩
theorem cmpE_lays (w : World) (g size : Nat) : CmpLays Tryd.prog 34 #[] (encE (w := w) (g := g)) 5 cfE g 0 size w := fun m os dk hs x y => by
  have hk := sortW_keep (encE (w := w) (g := g)) 5 w g m dk os
  obtain ⟨⟨cs, a⟩, h1, h2, h3⟩ := x
  obtain ⟨⟨cs', b⟩, h1', h2', h3'⟩ := y
  refine (cCompare_any a b cs cs' _ _ _ (h1.keep hk) (h1'.keep hk) h2 h2' h3 h3').mono ?_
  rintro e w' ⟨rfl, hg⟩
  exact ⟨rfl, hg.grow⟩
/-- the row of elements that a block holds -/
theorem elts {w : World} {g : Nat} : ∀ {css : List (List Value)} {l : List JV}, VRs w (fun b => b ≠ g) css l → (∀ x ∈ l, gd x) → (∀ x ∈ l, Came x) → ∃ es : List (Elt w g), es.map (·.1.1) = css ∧ es.map (·.1.2) = l
  | [], [], _, _, _ => ⟨[], rfl, rfl⟩
  | c :: r, [], h, _, _ => by have := h.1; simp at this
  | [], x :: r, h, _, _ => by have := h.1; simp at this
  | c :: r, x :: r', h, hg, hc => by
    have h0 := h.2 0 c x rfl rfl
    obtain ⟨es, e1, e2⟩ := elts (css := r) (l := r') ⟨by have := h.1; simpa using this, fun i c' x' h1 h2 => h.2 (i + 1) c' x' (by simpa using h1) (by simpa using h2)⟩ (fun y hy => hg y (List.mem_cons_of_mem _ hy)) (fun y hy => hc y (List.mem_cons_of_mem _ hy))
    exact ⟨⟨(c, x), h0, hg x List.mem_cons_self, hc x List.mem_cons_self⟩ :: es, by simp [e1], by simp [e2]⟩
theorem flatK_list {w : World} {g : Nat} (d : Array (Elt w g)) {j : Nat} (hj : j < d.size * 5) : (d.toList.map (·.1.1)).flatten[j]? = some (Sort.flatK encE 5 d)[j]! := by
  have h5 : ∀ c ∈ d.toList.map (·.1.1), c.length = 5 := fun c hc => by
    obtain ⟨x, _, rfl⟩ := List.mem_map.1 hc
    exact x.2.1.len
  have hq : j / 5 < d.size := by omega
  have hd : (d.toList.map (·.1.1))[j / 5]? = some (encE d[j / 5]!) := by
    rw [List.getElem?_map, Array.getElem?_toList, Array.getElem?_eq_getElem hq, getElem!_pos d _ hq]; rfl
  have h := flat5_get h5 hd (j := j % 5) (by omega)
  rw [show j / 5 * 5 + j % 5 = j by omega] at h
  rw [h, Sort.get_flatK _ _ _ _ hj]
  have hl : (encE d[j / 5]!).length = 5 := (d[j / 5]!).2.1.len
  rw [List.getElem?_eq_getElem (by omega)]
  congr 1
  exact (getElem!_pos _ _ _).symm
set_option maxHeartbeats 4000000 in
theorem sortFunc_any (l : List JV) (css : List (List Value)) (g cap : Nat) (t : TypeId) (W : World) (hv : VRs W (fun b => b ≠ g) css l) (hg : ∀ x ∈ l, gd x) (hc : ∀ x ∈ l, Came x) (hlen : l.length ≤ 4194304) (hcap : l.length ≤ cap) (hb : Blk W g t css.flatten.toArray) {B : Nat} (hB : B ≤ g) :
    Calls Tryd.prog 47 #[.slice (some ⟨g, 0, none⟩) l.length cap, .func (.func 34) #[] #[]] W fun e w' => e = .returned (.tuple #[]) ∧ (∃ l', l'.Perm l ∧ SortedJ l' ∧ RowV w' (some ⟨g, 0, none⟩) cap l') ∧ Below B W w' := by
  obtain ⟨es, e1, e2⟩ := elts hv hg hc
  have hsz : es.toArray.size = l.length := by rw [← e2]; simp
  have hflat : ∀ j, j < es.toArray.size * 5 → (es.toArray.toList.map (·.1.1)).flatten[j]? = some (Sort.flatK encE 5 es.toArray)[j]! := fun j hj => flatK_list es.toArray hj
  rw [show es.toArray.toList.map (·.1.1) = css from by simpa using e1] at hflat
  have hH : Sort.HoldsK encE 5 W g 0 es.toArray := fun j hj => by
    rw [Sort.size_flatK] at hj
    have h := hflat j hj
    refine ⟨?_, by simpa using hb.frozen (0 + j)⟩
    rw [Nat.zero_add, hb.cell]
    show css.flatten.toArray[j]? = some (id _)
    rw [List.getElem?_toArray, h]; rfl
  have eg : ∀ args w, (callFunc 34 args).run Tryd.prog w = .ok (.enter 34 args) w := enters_of Tryd.func34 (by kernel_rfl) rfl
  have hcon := AnyQ.slices_SortFunc Tryd.sortV 5 (fun w => by kernel_rfl) (fun w => by kernel_rfl) encE (fun x => x.2.1.len) (fun x v hv => x.2.1.one v hv) cfE (swoE W g) 34 #[] g 0 cap es.toArray W eg (cmpE_lays W g _) hH hb.lt (by omega)
  rw [hsz] at hcon
  refine Calls.mono hcon ?_
  rintro e w' ⟨rfl, d', n, os, hp, hs, rfl⟩
  obtain ⟨p1, p2, p3⟩ := hp
  have hds : d'.size = l.length := by rw [p1]; exact hsz
  have hk := sortW_keep (encE (w := W) (g := g)) 5 W g n d' os
  refine ⟨rfl, ⟨d'.toList.map (·.1.2), ?_, ?_, d'.toList.map (·.1.1), ?_, ?_, fun e => by simp at e, fun hne => ⟨g, 0, rfl, ?_, trivial, fun i hi => ?_⟩⟩, sortW_below _ _ _ _ _ _ _ hB (Nat.le_trans hB (Nat.le_of_lt hb.lt))⟩
  · have h9 : (d'.extract 0 l.length) = d' := by rw [← hds]; simp
    have h8 : (es.toArray.extract 0 l.length) = es.toArray := by rw [← hsz]; simp
    rw [h9, h8] at p3
    have := p3.map (·.1.2)
    rwa [show es.toArray.toList.map (·.1.2) = l from by simpa using e2] at this
  · refine List.pairwise_map.2 (List.pairwise_iff_getElem.2 fun i j hi hj hij => ?_)
    have h := hs i j (Nat.zero_le _) hij (by simpa [hds] using hj)
    rw [Array.length_toList] at hi hj
    rw [getElem!_pos d' _ hj, getElem!_pos d' _ hi] at h
    unfold ltOf cfE at h
    rw [decide_eq_false_iff_not] at h
    have := cmpJ_anti (d'[i]).2.2.1.j (d'[j]).2.2.1.j
    rw [Array.getElem_toList, Array.getElem_toList]
    omega
  · refine ⟨by simp, fun i c x h1 h2 => ?_⟩
    rw [List.getElem?_map] at h1 h2
    obtain ⟨y, hy, rfl⟩ := Option.map_eq_some_iff.1 h1
    rw [hy] at h2
    obtain rfl : y.1.2 = x := by simpa using h2
    exact (y.2.1.keep hk).mono fun _ _ _ => trivial
  · rw [List.length_map, Array.length_toList, hds]; exact hcap
  · exact lt_sortWorldK encE 5 W g 0 n d' os hb.lt
  · have hH' := holdsK_sortWorldK encE 5 W g 0 n es.toArray d' os hb.lt hH (by rw [hds, hsz])
    have hi' : i < d'.size * 5 := by
      rw [flat5_len (fun c hc => by obtain ⟨x, _, rfl⟩ := List.mem_map.1 hc; exact x.2.1.len)] at hi
      simpa using hi
    have h := (hH' i (by rw [Sort.size_flatK]; exact hi')).1
    rw [h]
    have h7 := flatK_list d' hi'
    rw [List.getElem?_eq_getElem hi] at h7
    rw [Option.some.inj h7]; rfl
/-- copy, of a row of values into a row of one's own -/
theorem copyV (w : World) (g dLen dCap sLen sCap : Nat) (A : Option Addr) (cur : Array Value) (t : TypeId) (cs : List Value) (hg : w.heap[g]? = some (.cells cur t (0, 0))) (hl : sLen = dLen) (hn : cs.length = dLen * 5) (hA : RdF w TT A cs) (hsz : cur.size = dLen * 5) (h1 : ∀ v ∈ cs, v.oneCell' = true) :
    (Builtin.copy_ #[25, 25] 3 #[.slice (some ⟨g, 0, none⟩) dLen dCap, .slice A sLen sCap]).run Tryd.prog w = .ok (goInt dLen) (w.setRow g cs.toArray) := by
  subst hl
  have hu : Tryd.prog.underlying 25 = some (.slice 28) := Tryd.underlying25
  have hs : (Tryd.prog.info? 28).map (·.size) = some 5 := by kernel_rfl
  obtain ⟨i, hq, hi⟩ := Option.map_eq_some_iff.1 hs
  have hst := run_storeCells_at Tryd.prog g 0 t cs 0 cur w hg (by omega) h1
  have hfin : (cur.toList.take (0 + 0) ++ cs ++ cur.toList.drop (0 + 0 + cs.length)).toArray = cs.toArray := by
    rw [List.take_zero, List.nil_append, List.drop_of_length_le (by rw [Array.length_toList]; omega), List.append_nil]
  rw [hfin] at hst
  cases hc : cs with
  | nil =>
    subst hc
    have h0 : sLen = 0 := by simp at hn; omega
    subst h0
    cases A with
    | none => simp [Builtin.copy_, run_underlying hu, Builtin.lenOf, Builtin.firstCells, sizeOf, typeInfo, hq, hi, hst]
    | some a => simp [Builtin.copy_, run_underlying hu, Builtin.lenOf, Builtin.firstCells, sizeOf, typeInfo, hq, hi, hst, loadCells, loadCellsFrom]
  | cons v r =>
    rw [← hc]
    obtain ⟨b, o, rfl, hb, _, hx⟩ := hA (by rw [hc]; simp)
    have hld := run_loadCells_list (P := Tryd.prog) w ⟨b, o, none⟩ cs (fun j v hj => by
      have hj' := (List.getElem?_eq_some_iff.1 hj).1
      rw [Addr.add_lit, hx j hj', ← List.getElem?_eq_getElem hj', hj])
    rw [hn] at hld
    simp [Builtin.copy_, run_underlying hu, Builtin.lenOf, Builtin.firstCells, sizeOf, typeInfo, hq, hi, hst, hld]
set_option maxRecDepth 100000 in
set_option maxHeartbeats 4000000 in
theorem cSort1 (l : List JV) (A : Option Addr) (nk ca gl : Nat) (w : World) (hr : RowV w A ca l) (hnk : l.length = nk) (hlen : nk ≤ 4194304) (hg : ∀ x ∈ l, gd x) (hc : ∀ x ∈ l, Came x) (hB : Blk w gl 25 #[.slice A nk ca]) :
    Calls Tryd.prog 46 #[.pointer (some ⟨gl, 0, none⟩)] w fun e w' => ∃ g, e = .returned (.tuple #[.slice (some ⟨g, 0, none⟩) nk nk, .int .i64 0]) ∧ RowV w' (some ⟨g, 0, none⟩) nk (rSortJ l) ∧ Below w.heap.size w w' := by
  obtain ⟨css, hr1, hr2, hr3, hr4⟩ := hr
  have hpt : (Tryd.prog.info? 28).map (fun i => (i.zero, i.size, decide (i.bytes ≤ 1000))) = some (some (.agg #[.int .i64 0, .int .i64 0, .string ⟨#[]⟩, .slice none 0 0, .slice none 0 0]), 5, true) := by kernel_rfl
  obtain ⟨i0, hi, hpz⟩ := Option.map_eq_some_iff.1 hpt
  simp only [Prod.mk.injEq, decide_eq_true_eq] at hpz
  obtain ⟨hz0, hz1, hz2⟩ := hpz
  obtain ⟨M, hM⟩ : ∃ M, M = madeCells (Value.agg #[.int .i64 0, .int .i64 0, .string ⟨#[]⟩, .slice none 0 0, .slice none 0 0]).cells (nk * 5) := ⟨_, rfl⟩
  have hMs : M.size = nk * 5 := by rw [hM, size_madeCells]
  have hmk : ∀ W : World, (Instr.makeSlice 25 (.int .i64 (nk : Int)) (.int .i64 (nk : Int))).run Tryd.prog W = .ok (.slice (some ⟨W.heap.size, 0, none⟩) nk nk) (W.alloc (.cells M 28)) := fun W => by
    have hb : (i0.bytes : Int) * (nk : Int) ≤ 281474976710656 := by
      have h1 : i0.bytes * nk ≤ 1000 * 4194304 := Nat.mul_le_mul hz2 hlen
      have h2 : ((i0.bytes * nk : Nat) : Int) ≤ 281474976710656 := by omega
      rwa [Int.natCast_mul] at h2
    have h := run_make (P := Tryd.prog) W 25 28 i0 _ Tryd.underlying25 hi hz0 .i64 .i64 (nk : Int) (nk : Int) (by omega) (by omega) hb (by omega)
    rw [hz1, Int.toNat_natCast, ← hM] at h
    exact h
  have hfl := hr1.flat
  have hcp := copyV (w.alloc (.cells M 28)) w.heap.size nk nk nk ca A M 28 css.flatten (heap_alloc_new w _) rfl (by rw [hfl, hnk]) (hr4.keep (KeepF.of_below ((Below.refl _ w).alloc (Nat.le_refl _) _))) hMs hr1.one
  have hb0 : Below w.heap.size w ((w.alloc (.cells M 28)).setRow w.heap.size css.flatten.toArray) := below_setRow ((Below.refl _ w).alloc (Nat.le_refl _) _) (Nat.le_refl _) _
  have hk0 : Blk ((w.alloc (.cells M 28)).setRow w.heap.size css.flatten.toArray) w.heap.size 28 css.flatten.toArray := setRow_heap _ _ M _ 28 (0, 0) (heap_alloc_new w _)
  obtain ⟨W0, hW0⟩ : ∃ W0, (w.alloc (.cells M 28)).setRow w.heap.size css.flatten.toArray = W0 := ⟨_, rfl⟩
  rw [hW0] at hcp hb0 hk0
  have hv0 : VRs W0 (fun b => b ≠ w.heap.size) css l := by
    have h1 : VRs w (fun b => b < w.heap.size) css l := hr1.mono fun b hb _ => hb
    exact (h1.below hb0).mono fun b _ hb => by omega
  have hsf := sortFunc_any l css w.heap.size nk 28 W0 hv0 hg hc (by omega) (by omega) hk0 (B := w.heap.size) (Nat.le_refl _)
  rw [hnk] at hsf
  have HSF := Lib.hid hsf
  have HGD := Lib.hid hg
  have HB0 := Lib.hid hb0
  have hgi : (goInt nk : Value) = .int .i64 nk := rfl
  clear hr1 hr2 hr3 hr4 hM hMs hfl hb0 hk0 hW0 hv0 hsf hg hc hnk hz0 hz1 hz2 hi hpt
  obtain ⟨c1, f1, l1⟩ := hB.rules
  have c2 := (hB.alloc (.cells M 28)).cell
  clear hB
  go_enter Tryd.func46, Tryd.ntmps46
  go_wp2_with fail
  refine HSF.out.mono ?_
  rintro e w1 ⟨rfl, ⟨l', hp, hs, hrow⟩, hb1⟩
  have HROW := Lib.hid (show RowV w1 (some ⟨w.heap.size, 0, none⟩) nk (rSortJ l) by rw [← rSortJ_is HGD.out hp hs]; exact hrow)
  have HB1 := Lib.hid (HB0.out.trans hb1)
  clear hp hs hrow hb1
  go_wp2
  go_ret2
  exact ⟨_, rfl, HROW.out, HB1.out⟩
/-- what Sort tells -/
def SortPost (l : List JV) (w : World) (e : Ending) (w' : World) : Prop :=
  (((∀ x ∈ l, gd x) ∧ ∃ g, e = .returned (.tuple #[.slice (some ⟨g, 0, none⟩) l.length l.length, .int .i64 0]) ∧ RowV w' (some ⟨g, 0, none⟩) l.length (rSortJ l)) ∨
    ((∃ x ∈ l, ¬ gd x) ∧ e = .returned (.tuple #[.slice none 0 0, .int .i64 140]))) ∧ Below w.heap.size w w'
set_option maxRecDepth 100000 in
set_option maxHeartbeats 4000000 in
theorem cSort (l : List JV) (A : Option Addr) (nk ca : Nat) (w : World) (hG : GOK w) (hr : RowV w A ca l) (hnk : l.length = nk) (hlen : nk ≤ 4194304) (hc : ∀ x ∈ l, Came x) :
    Calls Tryd.prog 29 #[.slice A nk ca] w (SortPost l w) := by
  have HB := Lib.hid ((Below.refl w.heap.size w).alloc (Nat.le_refl _) (.cells #[.slice A nk ca] 25))
  have HBK := Lib.hid (Blk.new w 25 #[.slice A nk ca])
  have HT := Lib.hid (fun (W : World) (hb : Below w.heap.size w W) (g : Nat) (hB : Blk W g 25 #[.slice A nk ca]) =>
    toldS l A nk ca (.pointer (some ⟨g, 0, none⟩)) W (hG.keep hb) (hr.bel hb) hnk hc hlen (SortPost l w)
      (fun hbad W' hb' => ⟨.inr ⟨hbad, rfl⟩, hb.trans (hb'.mono hb.size)⟩)
      (fun hall W' hb' => by
        refine (cSort1 l A nk ca g W' ((hr.bel hb).bel hb') hnk hlen hall hc (hB.keep hb')).mono ?_
        rintro e w' ⟨g', rfl, hrow, hb2⟩
        refine ⟨_, _, rfl, .inl ⟨hall, g', by rw [hnk], by rw [hnk]; exact hrow⟩, hb.trans ((hb'.trans (hb2.mono hb'.size)).mono hb.size)⟩))
  clear hG hr hnk hc
  have hmf : ∀ (fn : Fn) (first cap : Array Value) (w : World), (Instr.makeFunc fn first cap).run Tryd.prog w = .ok (.func fn first cap) w := fun _ _ _ _ => rfl
  go_enter Tryd.func29, Tryd.ntmps29
  go_wp2_with fail
  refine (HT.out _ HB.out _ HBK.out).mono ?_
  rintro e w1 ⟨he, hb1⟩
  have HF := Lib.hid hb1
  clear hb1
  rcases he with ⟨hall, g', rfl, hrow⟩ | ⟨hbad, rfl⟩
  · have HROW := Lib.hid hrow
    have HALL := Lib.hid hall
    clear hrow hall
    go_wp2
    go_ret2
    exact ⟨.inl ⟨HALL.out, g', rfl, HROW.out⟩, HF.out⟩
  · have HBAD := Lib.hid hbad
    clear hbad
    go_wp2
    go_ret2
    exact ⟨.inr ⟨HBAD.out, rfl⟩, HF.out⟩
end Go.Proofs.YtoejdhabpajhlaaDoor
