/- CollateWithin: plain laws, and words for its walks. -/
import Derived.Test.YtoejdhabpajhlaaDoorC7k
namespace Go.Proofs.YtoejdhabpajhlaaDoor
set_option linter.unusedVariables false
set_option linter.unusedSimpArgs false
open Go.RowKit
attribute [local go_sem] run_index_arr run_part_agg run_part_one run_field_agg

theorem lexI_zz {b : Int} : lexI 0 b = b := if_pos rfl
theorem cmpL_app : ∀ (l xs ys : List JV), cmpL false (l ++ xs) [] (l ++ ys) [] = cmpL false xs [] ys []
  | [], xs, ys => rfl
  | x :: r, xs, ys => by
    rw [List.cons_append, List.cons_append, cmpL_cons, cmpJ_self, show keyC false [] [] = 0 from rfl, lexI_zz, lexI_zz]
    exact cmpL_app r xs ys
def jRow (l : List JV) (v h : JV) : JV := jList (l ++ [v] ++ [h])
def jObj (k k' : List UInt8) (v h : JV) : JV := .mk 6 0 [] [v, h] [k, k']
theorem lexI_r (a : Int) : lexI a 0 = a := by unfold lexI; split <;> simp_all
theorem cmp_row (l : List JV) (a b h : JV) : cmpJ (jRow l a h) (jRow l b h) = cmpJ a b := by
  unfold jRow jList
  rw [List.append_assoc, List.append_assoc, cmpJ, if_neg (by simp [rankJ]), if_neg (by decide), if_neg (by decide)]
  show cmpL false (l ++ ([a] ++ [h])) [] (l ++ ([b] ++ [h])) [] = _
  rw [cmpL_app]
  show cmpL false (a :: [h]) [] (b :: [h]) [] = _
  rw [cmpL_cons, cmpL_self, show keyC false [] [] = 0 from rfl, lexI_zz, lexI_r]
theorem cmp_obj (k k' : List UInt8) (a b h : JV) : cmpJ (jObj k k' a h) (jObj k k' b h) = cmpJ a b := by
  unfold jObj
  rw [cmpJ, if_neg (by simp [rankJ]), if_neg (by decide), if_neg (by decide)]
  show cmpL true (a :: [h]) [k, k'] (b :: [h]) [k, k'] = _
  rw [cmpL_cons]
  show lexI (keyC true [k, k'] [k, k']) (lexI (cmpJ a b) (cmpL true [h] [k'] [h] [k'])) = _
  rw [cmpL_self, show keyC true [k, k'] [k, k'] = 0 from by unfold keyC; simp [cmpB], lexI_zz, lexI_r]
theorem bulkL_app : ∀ (l m : List JV), bulkL (l ++ m) = bulkL l + bulkL m
  | [], m => by simp [bulkL]
  | x :: r, m => by
    show bulkJ x + bulkL (r ++ m) = bulkJ x + bulkL r + bulkL m
    rw [bulkL_app r m]; omega
theorem inL_app {l m : List JV} (h : inL l) (h' : inL m) : inL (l ++ m) := inL_iff.2 fun x hx => by
  rcases List.mem_append.1 hx with h1 | h1
  · exact inL_iff.1 h x h1
  · exact inL_iff.1 h' x h1
theorem row_came {l : List JV} {v h : JV} (hl : inL l) (hb : bulkL l ≤ 1048576) (hv : inJ v) (hvb : bulkJ v ≤ 1048576) (hh : inJ h) (hhb : bulkJ h ≤ 1048576) : Came (jRow l v h) := by
  unfold jRow jList
  refine ⟨by unfold inJ; exact ⟨by unfold iw; decide, by unfold iw; decide, inL_app (inL_app hl (by unfold inL inL; exact ⟨hv, trivial⟩)) (by unfold inL inL; exact ⟨hh, trivial⟩)⟩, ?_⟩
  unfold bulkJ bulkK
  rw [bulkL_app, bulkL_app]
  simp only [bulkL, List.length_nil]
  omega
theorem obj_came {k k' : List UInt8} {v h : JV} (hk : k.length + k'.length ≤ 2000000) (hv : inJ v) (hvb : bulkJ v ≤ 1048576) (hh : inJ h) (hhb : bulkJ h ≤ 1048576) (ht : k.length + k'.length + bulkJ v + bulkJ h ≤ 4194300) : Came (jObj k k' v h) := by
  unfold jObj
  refine ⟨by unfold inJ; exact ⟨by unfold iw; decide, by unfold iw; decide, by unfold inL inL inL; exact ⟨hv, hh, trivial⟩⟩, ?_⟩
  unfold bulkJ
  simp only [bulkK, bulkL, List.length_nil]
  omega
/-- a value is answered -/
def RetJ (v : JV) (w : World) (e : Ending) (w' : World) : Prop := ∃ cs, e = .returned (.agg cs.toArray) ∧ VR w' TT cs v ∧ Below w.heap.size w w'
theorem wpAnyH_world {P : Program} {md : Region.Mode} {ops : Array Oper} {Q : Exit → Act → World → Prop} {S : World → Prop} {fuel : Nat} {listed : Array Bool} {a : Act} {w : World} (h : ∀ W, W = w → wpAnyH P md ops Q S fuel listed a W) : wpAnyH P md ops Q S fuel listed a w := h w rfl
/-- a block beside a row that grows -/
theorem app_keep {W W' : World} {v v' : Value} {g : Nat} {t : TypeId} {cs : Array Value} (hk : Blk W g t cs) (hne : v.ownBlock ≠ some g) (hgr : W.grownBy W' v.ownBlock) (hob : v'.ownBlock = v.ownBlock ∨ v'.ownBlock = some W.heap.size) : Blk W' g t cs ∧ v'.ownBlock ≠ some g :=
  ⟨hk.grown hgr (fun e => hne e.symm), by
    rcases hob with h | h
    · rw [h]; exact hne
    · rw [h]; intro e; injection e with e; have := hk.lt; omega⟩
theorem own_al {W W' : World} {o : Obj} {B : Nat} {t : TypeId} {s n : Nat} {v : Value} {xs : List Value} (hW : W' = W.alloc o) (h : W.ownsRow B t s v n xs) : W'.ownsRow B t s v n xs := by subst hW; exact h.alloc _
theorem blk_al {W W' : World} {t : TypeId} {cs : Array Value} (hW : W' = W.alloc (.cells cs t)) : Blk W' W.heap.size t cs := by subst hW; exact Blk.new _ _ _
theorem bel_al {W W' : World} {o : Obj} (hW : W' = W.alloc o) : Below W.heap.size W W' := by subst hW; exact (Below.refl _ _).alloc (Nat.le_refl _) _
theorem own_nil {W W' : World} {t : TypeId} {B : Nat} (hW : W' = W.alloc (.cells #[] t)) (hB : B ≤ W.heap.size) : W'.ownsRow B t 5 (.slice (some ⟨W.heap.size, 0, none⟩) 0 0) 0 [] := by subst hW; exact World.ownsRow_made W #[] 0 hB (by decide) rfl
theorem own_nn {k g : Nat} (h : g < k) : (Value.slice (some ⟨k, 0, none⟩) 0 0).ownBlock ≠ some g := fun e => by
  have e : some k = some g := e
  injection e with e; omega
theorem own_ne {W : World} {B : Nat} {t : TypeId} {s n : Nat} {v : Value} {xs : List Value} (h : W.ownsRow B t s v n xs) {g : Nat} (hg : W.heap.size ≤ g) : v.ownBlock ≠ some g := fun e => by have := (h.lt g e).2; omega
theorem keep5 {W : World} {F : Nat → Prop} {g : Nat} (hF : ∀ b, F b → b ≠ g) (a b c d e : Value) : KeepF F W (((((W.setCell ⟨g, 0, none⟩ a).setCell ⟨g, 1, none⟩ b).setCell ⟨g, 2, none⟩ c).setCell ⟨g, 3, none⟩ d).setCell ⟨g, 4, none⟩ e) :=
  (((((KeepF.refl (W := W) (F := F)).set hF 0 a).set hF 1 b).set hF 2 c).set hF 3 d).set hF 4 e
end Go.Proofs.YtoejdhabpajhlaaDoor
