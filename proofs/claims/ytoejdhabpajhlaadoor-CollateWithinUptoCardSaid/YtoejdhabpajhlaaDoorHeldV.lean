/- Words for a long walk: blocks, values and rows that are held. -/
import Derived.Test.YtoejdhabpajhlaaDoorBase
import Derived.Test.YtoejdhabpajhlaaDoorToldG
namespace Go.Proofs.YtoejdhabpajhlaaDoor
set_option linter.unusedVariables false
set_option linter.unusedSimpArgs false
open Go.RowKit

/-- since the world w0 nothing old has changed, these blocks read so, and this is so and stays so -/
def Hld (L : List (Nat × TypeId × Array Value)) (V : List (World → Prop)) (w0 W : World) : Prop := Held L w0 W ∧ ∀ p ∈ V, ∀ W', Below W.heap.size W W' → p W'
section
variable {L : List (Nat × TypeId × Array Value)} {V : List (World → Prop)} {w0 W W' : World} {g : Nat} {t : TypeId} {cs : Array Value} {x0 x1 x2 x3 x4 x5 : Nat × TypeId × Array Value} {l : List Value} {v : JV} {p y0 y1 y2 y3 y4 y5 : World → Prop}
theorem Hld.nil (w0 : World) : Hld [] [] w0 w0 := ⟨Held.nil w0, fun x hx => by cases hx⟩
theorem Hld.bel (h : Hld L V w0 W) : Below w0.heap.size w0 W := h.1.1
theorem Hld.keep (h : Hld L V w0 W) (hb : Below W.heap.size W W') : Hld L V w0 W' := ⟨h.1.keep hb, fun x hx W2 h2 => h.2 x hx W2 (hb.trans (h2.mono hb.size))⟩
theorem Hld.alloc (h : Hld L V w0 W) (o : Obj) : Hld L V w0 (W.alloc o) := h.keep ((Below.refl _ W).alloc (Nat.le_refl _) o)
theorem Hld.drewN (h : Hld L V w0 W) (n : Nat) : Hld L V w0 (W.drewN n) := h.keep (bel_drewN (Below.refl _ W) n)
theorem Hld.drew (h : Hld L V w0 W) : Hld L V w0 W.drew := h.keep (Below.refl _ W).drew
theorem Hld.push (h : Hld L V w0 W) (t : TypeId) (cs : Array Value) (hg : W.heap.size = g) : Hld ((g, t, cs) :: L) V w0 (W.alloc (.cells cs t)) := ⟨h.1.push t cs hg, (h.alloc _).2⟩
theorem Hld.also (h : Hld L V w0 W) (hv : ∀ W', Below W.heap.size W W' → p W') : Hld L (p :: V) w0 W := ⟨h.1, fun x hx => by
  rcases List.mem_cons.1 hx with rfl | hx
  · exact hv
  · exact h.2 x hx⟩
theorem Hld.val (h : Hld L V w0 W) (hv : VR W TT l v) : Hld L ((fun W => VR W TT l v) :: V) w0 W := h.also fun W' hb => hv.bel hb
theorem Hld.row {A : Option Addr} {ca : Nat} {xs : List JV} (h : Hld L V w0 W) (hv : RowV W A ca xs) : Hld L ((fun W => RowV W A ca xs) :: V) w0 W := h.also fun W' hb => hv.bel hb
theorem Hld.pop (h : Hld (x0 :: L) V w0 W) : Hld L V w0 W := ⟨h.1.pop, h.2⟩
theorem Hld.b0 (h : Hld ((g, t, cs) :: L) V w0 W) : Blk W g t cs := h.1.b0
theorem Hld.b1 (h : Hld (x0 :: (g, t, cs) :: L) V w0 W) : Blk W g t cs := h.1.b1
theorem Hld.b2 (h : Hld (x0 :: x1 :: (g, t, cs) :: L) V w0 W) : Blk W g t cs := h.1.b2
theorem Hld.b3 (h : Hld (x0 :: x1 :: x2 :: (g, t, cs) :: L) V w0 W) : Blk W g t cs := h.1.b3
theorem Hld.b4 (h : Hld (x0 :: x1 :: x2 :: x3 :: (g, t, cs) :: L) V w0 W) : Blk W g t cs := h.1.b4
theorem Hld.b5 (h : Hld (x0 :: x1 :: x2 :: x3 :: x4 :: (g, t, cs) :: L) V w0 W) : Blk W g t cs := h.1.b5
theorem Hld.b6 (h : Hld (x0 :: x1 :: x2 :: x3 :: x4 :: x5 :: (g, t, cs) :: L) V w0 W) : Blk W g t cs := h.1.b6
theorem Hld.popv (h : Hld L (y0 :: V) w0 W) : Hld L V w0 W := ⟨h.1, fun x hx => h.2 x (List.mem_cons_of_mem _ hx)⟩
theorem Hld.v0 (h : Hld L (p :: V) w0 W) : p W := h.2 _ (List.mem_cons_self ..) W (Below.refl _ _)
theorem Hld.v1 (h : Hld L (y0 :: p :: V) w0 W) : p W := h.popv.v0
theorem Hld.v2 (h : Hld L (y0 :: y1 :: p :: V) w0 W) : p W := h.popv.v1
theorem Hld.v3 (h : Hld L (y0 :: y1 :: y2 :: p :: V) w0 W) : p W := h.popv.v2
theorem Hld.v4 (h : Hld L (y0 :: y1 :: y2 :: y3 :: p :: V) w0 W) : p W := h.popv.v3
theorem Hld.v5 (h : Hld L (y0 :: y1 :: y2 :: y3 :: y4 :: p :: V) w0 W) : p W := h.popv.v4
end
end Go.Proofs.YtoejdhabpajhlaaDoor
