/- A range over a function whose variables are boxed anew each round: the law of that statement (after my Iter). -/
import Derived.Test.YtalhoacancbldaaDoorIter
namespace Go.Proofs.YtalhoacancbldaaDoor
set_option linter.unusedVariables false
set_option linter.unusedSimpArgs false
open Go.RowKit Go.Shelf

variable {F : Fence} {n : Nat} {P : Program}
/-- THE STATEMENT 'for .. := range g { .. }', outermost. -/
theorem wpIn_rf2 {α : Type} {g : Operand} {ps : Array Tmp} {assign body : Code} {Q : Exit → Act → World → Prop} {a : Act} {w : World}
    (hro : F.round = none) (h1 : 1 ≤ n) {gf : Nat} {lb : Array Value} (hg : a.eval g = .func (.func gf) #[] lb) (hFg : F.fn gf) (eg : ∀ args w, (callFunc gf args).run P w = .ok (.enter gf args) w)
    {encs : α → Array Value} {St Kp : World → World → Prop} {Adm : List α → α → Prop} {Done Stop : List α → World → Prop} {w0 : World} (hseq : SeqSt F (n - 1) P gf lb encs St Kp Adm Done Stop w0)
    (hb0 : Below w0.heap.size w0 w) (hps : ∀ x, (encs x).size = ps.size)
    (hSk : ∀ A B k o, St A B → w.heap.size ≤ k → A.heap[k]? = some o → o.isCells = false → B.heap[k]? = some o)
    (hKt : ∀ {A B C : World}, Kp A B → Kp B C → Kp A C) (hKb : ∀ (W : World) (k : Nat) (o o' : Obj), w.heap.size ≤ k → W.heap[k]? = some o → o.isCells = false → Kp W (W.putObj k o'))
    (hDp : ∀ xs (W : World) (k : Nat) (o o' : Obj), w.heap.size ≤ k → W.heap[k]? = some o → o.isCells = false → Done xs W → Done xs (W.putObj k o'))
    (hSp : ∀ xs (W : World) (k : Nat) (o o' : Obj), w.heap.size ≤ k → W.heap[k]? = some o → o.isCells = false → Stop xs W → Stop xs (W.putObj k o'))
    (I : List α → World → Prop) (Ix : Code → List α → World → Prop)
    (hIS : ∀ s A B, St A B → I s A → I s B) (hIxS : ∀ c s A B, St A B → Ix c s A → Ix c s B)
    (hIp : ∀ s (W : World) (k : Nat) (o o' : Obj), w.heap.size ≤ k → W.heap[k]? = some o → o.isCells = false → I s W → I s (W.putObj k o'))
    (hIxp : ∀ c s (W : World) (k : Nat) (o o' : Obj), w.heap.size ≤ k → W.heap[k]? = some o → o.isCells = false → Ix c s W → Ix c s (W.putObj k o'))
    (h0 : ∀ o o', I [] ((w.alloc o).alloc o')) (I1 : List α → α → Act → World → Prop)
    (hI1p : ∀ pre x a1 (W : World) (k : Nat) (o o' : Obj), w.heap.size ≤ k → W.heap[k]? = some o → o.isCells = false → I1 pre x a1 W → I1 pre x a1 (W.putObj k o'))
    (hassign : ∀ (l : Nat) (pre : List α) (x : α) (W : World), I pre W → Adm pre x →
      assign.wpIn (F.inRound l) (n - 1 - 1) P (Exit.then (fun a1 W' => I1 pre x a1 W' ∧ KeepsFrom w.heap.size W W' ∧ Kp W W') (fun _ _ _ => False)) { tmps := (ps.zip (encs x)).foldl (fun t (p, v) => t.setIfInBounds p v) a.tmps, defers := [] } W)
    (hbody : ∀ (l : Nat) (pre : List α) (x : α) (a1 : Act) (W : World), I1 pre x a1 W → Adm pre x → body.wpIn (F.inRound l) (n - 1 - 1) P (rfPost w.heap.size Kp I Ix (pre ++ [x]) W) a1 W)
    (hdone : ∀ (D : Nat) (xs : List α) (W : World), w.heap.size ≤ D → Done xs W → I xs W → W.heap[D]? = some (.deferred (some [])) → Q .normal { a with defers := { target := .collected D, args := #[] } :: a.defers } W)
    (hstop : ∀ (D : Nat) (c : Code) (pre : List α) (W : World), w.heap.size ≤ D → Stop pre W → Ix c pre W → W.heap[D]? = some (.deferred (some [])) → c.wpIn F n P Q { a with defers := { target := .collected D, args := #[] } :: a.defers } W) :
    (Code.rangeFunc g ps assign body).wpIn F n P Q a w := by
  refine wpIn_rangeFunc ?_
  intro fn hfn
  rw [hro]
  generalize hrec : (fun (st : LoopState) (pe : Option Code) => ({ state := st, pending := pe, fn, tmps := a.tmps, params := ps, assign, body, defers := w.heap.size } : Loop)) = rec
  generalize hW1 : (w.alloc (.deferred (some []))).alloc (.loop (rec .ready none)) = W1
  have hsz1 : W1.heap.size = w.heap.size + 2 := by rw [← hW1]; simp
  have hL1 : W1.heap[w.heap.size + 1]? = some (.loop (rec .ready none)) := by
    rw [← hW1]; have := heap_alloc_new (w.alloc (.deferred (some []))) (.loop (rec .ready none)); rwa [World.size_alloc] at this
  have hK1 : W1.heap[w.heap.size]? = some (.deferred (some [])) := by
    rw [← hW1]; exact (Below.heap_alloc _ _ _ (by simp)).trans (heap_alloc_new w _)
  have hI1 : I [] W1 := by rw [← hW1]; exact h0 _ _
  have hb1 : Below w0.heap.size w0 W1 := by
    rw [← hW1]; exact hb0.trans ((((Below.refl _ w).alloc (Nat.le_refl _) _).alloc (by simp) _).mono hb0.size)
  have hrp : ∀ st pe, (rec st pe).params = ps := fun st pe => by rw [← hrec]
  have hrs : ∀ st pe, (rec st pe).state = st := fun st pe => by rw [← hrec]
  have hrd : ∀ st pe, (rec st pe).pending = pe := fun st pe => by rw [← hrec]
  refine ⟨w.heap.size + 1, [{ target := .collected w.heap.size, args := #[] }], W1, { target := .fn (.func gf) lb, args := #[.func (.yield (w.heap.size + 1)) #[] #[]] }, W1, gf,
    #[.func (.yield (w.heap.size + 1)) #[] #[]] ++ lb, W1, ?_, ?_, ?_, ?_, fun _ => h1, ?_⟩
  · rw [← hW1, ← hrec]; exact run_enterLoop_outer _ _ _ _ _
  · simp only [resolve, hg]
    simp [go_sem]
  · intro f' hf'; simp [Target.leads] at hf'; subst hf'; exact hFg
  · simp [invoke, go_sem, eg]
  refine (hseq (w.heap.size + 1)
    (fun pre W => I pre W ∧ W.heap[w.heap.size + 1]? = some (.loop (rec .ready none)) ∧ W.heap[w.heap.size]? = some (.deferred (some [])))
    (fun pre W => ∃ c, Ix c pre W ∧ W.heap[w.heap.size + 1]? = some (.loop (rec .done (some c))) ∧ W.heap[w.heap.size]? = some (.deferred (some [])))
    W1 hb1
    (fun s A B hs h => ⟨hIS s A B hs h.1, hSk A B _ _ hs (by omega) h.2.1 rfl, hSk A B _ _ hs (Nat.le_refl _) h.2.2 rfl⟩)
    (fun s A B hs h => by obtain ⟨c, h1, h2, h3⟩ := h; exact ⟨c, hIxS c s A B hs h1, hSk A B _ _ hs (by omega) h2 rfl, hSk A B _ _ hs (Nat.le_refl _) h3 rfl⟩)
    ?_ ⟨hI1, hL1, hK1⟩).mono ?_
  · -- one round
    rintro pre x W ⟨hi, hl, hk⟩ hadm
    have hlt : w.heap.size + 1 < W.heap.size := (Array.getElem?_eq_some_iff.1 hl).1
    have hy := run_yield (P := P) (args := encs x) hl (by rw [hrp]; exact hps x)
    refine ⟨_, _, _, _, hy, ?_⟩
    have e1 : (rec .ready none).fn = fn ∧ (rec .ready none).tmps = a.tmps ∧ (rec .ready none).assign = assign ∧ (rec .ready none).body = body := by rw [← hrec]; exact ⟨rfl, rfl, rfl, rfl⟩
    rw [e1.1, e1.2.1, e1.2.2.1, e1.2.2.2, hrp]
    have hbusy : ({ rec .ready none with state := .busy } : Loop) = rec .busy none := by rw [← hrec]
    refine roundIn_of_wpIn hfn (wpIn_mono (hassign _ pre x W hi hadm) ?_)
    intro e a1 Wa hp1
    rcases e with _ | _ | _ | _ | _ | _
    all_goals first | exact hp1.elim | skip
    obtain ⟨hi1, hkA, hkpA⟩ := hp1
    have hlA := hkA.same _ _ (by omega) hl rfl
    have hkA2 := hkA.same _ _ (Nat.le_refl _) hk rfl
    have hltA : w.heap.size + 1 < Wa.heap.size := (Array.getElem?_eq_some_iff.1 hlA).1
    have hbr := run_beginRound (P := P) hlA (hrs _ _)
    rw [hbusy] at hbr
    refine ⟨_, hbr, ?_⟩
    have hl2 : (Wa.putObj (w.heap.size + 1) (.loop (rec .busy none))).heap[w.heap.size + 1]? = some (.loop (rec .busy none)) := World.putObj_heap_same hltA
    have hk2 : (Wa.putObj (w.heap.size + 1) (.loop (rec .busy none))).heap[w.heap.size]? = some (.deferred (some [])) := (World.putObj_heap_other (by omega)).trans hkA2
    have hw2 : Kp W (Wa.putObj (w.heap.size + 1) (.loop (rec .busy none))) := hKt hkpA (hKb _ _ _ _ (by omega) hlA rfl)
    refine wpIn_mono (hbody _ pre x a1 _ (hI1p _ _ _ _ _ _ _ (by omega) hlA rfl hi1) hadm) ?_
    have fin : ∀ (jump : Option Code) (W3 : World), KeepsFrom w.heap.size (Wa.putObj (w.heap.size + 1) (.loop (rec .busy none))) W3 →
        (Instr.endRound (w.heap.size + 1) jump).run P W3 = .ok (.bool jump.isNone) (W3.putObj (w.heap.size + 1) (.loop (rec (if jump.isNone then .ready else .done) jump))) ∧
        W3.heap[w.heap.size + 1]? = some (.loop (rec .busy none)) ∧
        (W3.putObj (w.heap.size + 1) (.loop (rec (if jump.isNone then .ready else .done) jump))).heap[w.heap.size + 1]? = some (.loop (rec (if jump.isNone then .ready else .done) jump)) ∧
        (W3.putObj (w.heap.size + 1) (.loop (rec (if jump.isNone then .ready else .done) jump))).heap[w.heap.size]? = some (.deferred (some [])) := fun jump W3 hk3 => by
      have hl3 := hk3.same _ _ (by omega) hl2 rfl
      have := run_endRound (P := P) jump hl3
      rw [← hrec] at this hl3 ⊢
      exact ⟨this, hl3, World.putObj_heap_same (Array.getElem?_eq_some_iff.1 hl3).1, (World.putObj_heap_other (by omega)).trans (hk3.same _ _ (Nat.le_refl _) hk2 rfl)⟩
    rintro e a3 W3 hp
    cases e with
    | normal =>
      obtain ⟨hk3, hkp3, hi3⟩ := hp
      obtain ⟨hr, hl3, hl4, hk4⟩ := fin none W3 hk3
      exact ⟨_, _, hr, .inl ⟨rfl, ⟨hIp _ _ _ _ _ (by omega) hl3 rfl hi3, hl4, hk4⟩, hKt (hKt hw2 hkp3) (hKb _ _ _ _ (by omega) hl3 rfl)⟩⟩
    | ret =>
      obtain ⟨hk3, hkp3, hi3⟩ := hp
      obtain ⟨hr, hl3, hl4, hk4⟩ := fin (some .ret) W3 hk3
      exact ⟨_, _, hr, .inr ⟨rfl, ⟨.ret, hIxp _ _ _ _ _ _ (by omega) hl3 rfl hi3, hl4, hk4⟩, hKt (hKt hw2 hkp3) (hKb _ _ _ _ (by omega) hl3 rfl)⟩⟩
    | exit id =>
      obtain ⟨hk3, hkp3, hi3⟩ := hp
      obtain ⟨hr, hl3, hl4, hk4⟩ := fin (some (.exit id)) W3 hk3
      exact ⟨_, _, hr, .inr ⟨rfl, ⟨.exit id, hIxp _ _ _ _ _ _ (by omega) hl3 rfl hi3, hl4, hk4⟩, hKt (hKt hw2 hkp3) (hKb _ _ _ _ (by omega) hl3 rfl)⟩⟩
    | goto t =>
      obtain ⟨hk3, hkp3, hi3⟩ := hp
      obtain ⟨hr, hl3, hl4, hk4⟩ := fin (some (.goto t)) W3 hk3
      exact ⟨_, _, hr, .inr ⟨rfl, ⟨.goto t, hIxp _ _ _ _ _ _ (by omega) hl3 rfl hi3, hl4, hk4⟩, hKt (hKt hw2 hkp3) (hKb _ _ _ _ (by omega) hl3 rfl)⟩⟩
    | panic ch => exact hp.elim
    | outgrown => exact hp.elim
  · -- behind the iterator
    rintro e W2 ⟨⟨v, rfl⟩, (⟨xs, hD, hi, hl, hk⟩ | ⟨pre, hS, c, hi, hl, hk⟩)⟩
    · refine ⟨none, _, by have := run_endLoop (P := P) hl (by rw [hrs]; simp); rw [hrd] at this; exact this, ?_⟩
      exact hdone _ xs _ (Nat.le_refl _) (hDp _ _ _ _ _ (by omega) hl rfl hD) (hIp _ _ _ _ _ (by omega) hl rfl hi) ((World.putObj_heap_other (by omega)).trans hk)
    · refine ⟨some c, _, by have := run_endLoop (P := P) hl (by rw [hrs]; simp); rw [hrd] at this; exact this, ?_⟩
      exact hstop _ c pre _ (Nat.le_refl _) (hSp _ _ _ _ _ (by omega) hl rfl hS) (hIxp _ _ _ _ _ _ (by omega) hl rfl hi) ((World.putObj_heap_other (by omega)).trans hk)

end Go.Proofs.YtalhoacancbldaaDoor
