/- Words that all walks share: endings, blocks known whole, rows of cells that a slice reads, arrays read by an index. No function of the program is named. -/
import Derived.WalkKit
import Derived.WalkSpells
import Derived.WalkLawsBesides
import Derived.Lib.Hide
import Derived.Deep.QuietTactic
import Derived.BigQuiet
import Derived.Handy
import Derived.PlainAid
import Derived.WalkMore
import Derived.IntWalk
namespace Go.Proofs.YtalhoacancbldaaDoor
set_option linter.unusedVariables false
set_option linter.unusedSimpArgs false
open Go.RowKit

theorem ret_int {k : IntKind} {a b : Int} (h : a = b) : Ending.returned (.int k a) = .returned (.int k b) := by rw [h]
theorem ret_bool {a b : Bool} (h : a = b) : Ending.returned (.bool a) = .returned (.bool b) := by rw [h]
theorem ret_str {a b : ByteArray} (h : a = b) : Ending.returned (.string a) = .returned (.string b) := by rw [h]

/-- a string's bytes as a list -/
abbrev sl (s : ByteArray) : List UInt8 := s.data.toList
theorem sl_mk (l : List UInt8) : sl ⟨l.toArray⟩ = l := by simp [sl]
theorem sl_len (s : ByteArray) : (sl s).length = s.size := by simp [sl]
theorem str_ext {s t : ByteArray} (h : sl s = sl t) : s = t := by
  cases s; cases t; simp [sl] at h; rw [h]
theorem sl_get (s : ByteArray) (k : Nat) (h : k < s.size) : (sl s)[k]? = some s[k] := by
  rw [List.getElem?_eq_getElem (by rw [sl_len]; exact h)]; rfl

section arrays
variable {P : Program}
theorem run_index_arr (t : TypeId) (cs : Array Value) (k : IntKind) (i : Int) (w : World)
    (h : P.underlying t = some (.array (P.arrayLen t) (P.elem t))) :
    (Instr.index t (.agg cs) (.int k i)).run P w =
      if 0 ≤ i ∧ i < (P.arrayLen t : Int) then ((sizeOf (P.elem t)).run P w).andThen fun s w => (part (P.elem t) cs (i.toNat * s)).run P w
      else (boundsPanic k i (P.arrayLen t) .index).run P w := by
  simp only [Instr.index, Sem.run_bind, asIntOf, run_underlying h, Result.andThen, Sem.run_pure]
  split
  · rw [Sem.run_bind]; rfl
  · rfl
theorem run_part_agg (t : TypeId) (cs : Array Value) (off : Nat) (w : World) (h : (isAgg t).run P w = .ok true w) :
    (part t cs off).run P w = ((sizeOf t).run P w).andThen fun s w => .ok (.agg (cs.extract off (off + s))) w := by
  simp [part, Sem.run_bind, h, Result.andThen]
theorem run_part_one (t : TypeId) (cs : Array Value) (off : Nat) (w : World) (h : (isAgg t).run P w = .ok false w) (ho : off < cs.size) :
    (part t cs off).run P w = .ok cs[off] w := by
  simp [part, Sem.run_bind, h, Result.andThen, ho]
theorem run_field_agg (t : TypeId) (cs : Array Value) (i : Nat) (w : World) (h : P.underlying t = some (.struct (P.fieldsOf t))) (hi : i < (P.fieldsOf t).size) :
    (Instr.field t (.agg cs) i).run P w = (part (P.fieldsOf t)[i].type cs (P.fieldsOf t)[i].offset).run P w := by
  unfold Instr.field
  simp only [Sem.run_bind, run_underlying h, Result.andThen]
  rw [Array.getElem?_eq_getElem hi]
  simp [asAgg]
end arrays

/-- block g is just the cells cs, none of them frozen -/
def Blk (w : World) (g : Nat) (t : TypeId) (cs : Array Value) : Prop := w.heap[g]? = some (.cells cs t (0, 0))
section blocks
variable {w w' : World} {g : Nat} {t : TypeId} {cs : Array Value}
theorem Blk.lt (h : Blk w g t cs) : g < w.heap.size := by
  rcases Nat.lt_or_ge g w.heap.size with hlt | hge
  · exact hlt
  · unfold Blk at h; rw [Array.getElem?_eq_none hge] at h; cases h
theorem Blk.cell (h : Blk w g t cs) (i : Nat) : w.cell? ⟨g, i, none⟩ = cs[i]? := by
  unfold Blk at h; simp [World.cell?, h]
theorem Blk.frozen (h : Blk w g t cs) (i : Nat) : w.frozen? ⟨g, i, none⟩ = false := by
  unfold Blk at h; simp [World.frozen?, h]
/-- what the walk wants of a block -/
theorem Blk.rules (h : Blk w g t cs) : (∀ i, w.cell? ⟨g, i, none⟩ = cs[i]?) ∧ (∀ i, w.frozen? ⟨g, i, none⟩ = false) ∧ g < w.heap.size := ⟨h.cell, h.frozen, h.lt⟩
theorem Blk.new (w : World) (t : TypeId) (cs : Array Value) : Blk (w.alloc (.cells cs t)) w.heap.size t cs := heap_alloc_new w _
theorem Blk.drew (h : Blk w g t cs) : Blk w.drew g t cs := h
theorem Blk.drewN (h : Blk w g t cs) (n : Nat) : Blk (w.drewN n) g t cs := h
theorem Blk.alloc (h : Blk w g t cs) (o : Obj) : Blk (w.alloc o) g t cs := (Below.heap_alloc w o g h.lt).trans h
theorem Blk.set_ (h : Blk w g t cs) (i : Nat) (u : Value) : Blk (w.setCell ⟨g, i, none⟩ u) g t (cs.setIfInBounds i u) := by
  unfold Blk at h ⊢
  simp [World.setCell, Array.getElem?_modify, h]
theorem Blk.far (h : Blk w g t cs) {p : Addr} (hp : g ≠ p.block) (u : Value) : Blk (w.setCell p u) g t cs := (Below.heap_setCell w p u g hp).trans h
theorem Blk.below {B : Nat} (h : Blk w g t cs) (hb : Below B w w') (hg : g < B) : Blk w' g t cs := (hb.block g hg).trans h
theorem Blk.keep (h : Blk w g t cs) (hb : Below w.heap.size w w') : Blk w' g t cs := h.below hb h.lt
theorem Blk.grown {row : Option Nat} (h : Blk w g t cs) (hb : w.grownBy w' row) (hg : some g ≠ row) : Blk w' g t cs := (hb.block g h.lt hg).trans h
end blocks

/-- the cells that a slice's address leads to: a row of the list xs (nothing is said where xs is empty) -/
def Rd (w : World) (A : Option Addr) (xs : List Value) : Prop :=
  xs ≠ [] → ∃ b o, A = some ⟨b, o, none⟩ ∧ b < w.heap.size ∧ ∀ i (h : i < xs.length), w.cell? ⟨b, o + i, none⟩ = some xs[i]
section rows
variable {w w' : World} {A : Option Addr} {xs : List Value}
theorem Rd.nil : Rd w A [] := fun h => (h rfl).elim
theorem Rd.mono (h : Rd w A xs) (hs : w.heap.size ≤ w'.heap.size) (hc : ∀ b o, b < w.heap.size → w'.cell? ⟨b, o, none⟩ = w.cell? ⟨b, o, none⟩) : Rd w' A xs := fun hn => by
  obtain ⟨b, o, e, hb, hx⟩ := h hn
  exact ⟨b, o, e, by omega, fun i hi => (hc b _ hb).trans (hx i hi)⟩
theorem Rd.below (h : Rd w A xs) (hb : Below w.heap.size w w') : Rd w' A xs := h.mono hb.size fun b o hlt => hb.cell (p := ⟨b, o, none⟩) hlt
theorem Rd.drewN (h : Rd w A xs) (n : Nat) : Rd (w.drewN n) A xs := h
theorem Rd.alloc (h : Rd w A xs) (o : Obj) : Rd (w.alloc o) A xs := h.below ((Below.refl _ w).alloc (Nat.le_refl _) o)
theorem Rd.drop (h : Rd w A xs) (k : Nat) : Rd w (A.map fun a => a.add k) (xs.drop k) := fun hn => by
  have hne : xs ≠ [] := fun e => hn (by simp [e])
  obtain ⟨b, o, rfl, hb, hx⟩ := h hne
  refine ⟨b, o + k, ?_, hb, fun i hi => ?_⟩
  · simp [Addr.add]
  · have hi' : k + i < xs.length := by simp at hi; omega
    have := hx (k + i) hi'
    rw [show o + k + i = o + (k + i) from by omega, this]; simp
theorem Rd.take (h : Rd w A xs) (k : Nat) : Rd w A (xs.take k) := fun hn => by
  have hne : xs ≠ [] := fun e => hn (by simp [e])
  obtain ⟨b, o, rfl, hb, hx⟩ := h hne
  exact ⟨b, o, rfl, hb, fun i hi => by simp at hi; have := hx i (by omega); rw [this]; simp⟩
theorem Rd.of_blk {g : Nat} {t : TypeId} {cs : Array Value} (h : Blk w g t cs) : Rd w (some ⟨g, 0, none⟩) cs.toList := fun _ =>
  ⟨g, 0, rfl, h.lt, fun i hi => by rw [Nat.zero_add, h.cell]; simp at hi; simp [hi]⟩
end rows

/-- the bytes of a row as values -/
def byteV (l : List UInt8) : List Value := l.map fun c => .int .u8 c.toNat
theorem byteV_len (l : List UInt8) : (byteV l).length = l.length := by simp [byteV]
/-- v is a slice of bytes that reads as l -/
def BS (w : World) (v : Value) (l : List UInt8) : Prop := ∃ A cap, v = .slice A l.length cap ∧ l.length ≤ cap ∧ Rd w A (byteV l)
section bytes
variable {w w' : World} {v : Value} {l : List UInt8}
theorem BS.below (h : BS w v l) (hb : Below w.heap.size w w') : BS w' v l := by
  obtain ⟨A, cap, e, hc, hr⟩ := h; exact ⟨A, cap, e, hc, hr.below hb⟩
theorem BS.alloc (h : BS w v l) (o : Obj) : BS (w.alloc o) v l := h.below ((Below.refl _ w).alloc (Nat.le_refl _) o)
theorem BS.drewN (h : BS w v l) (n : Nat) : BS (w.drewN n) v l := h
theorem BS.nil : BS w (.slice none 0 0) [] := ⟨none, 0, rfl, Nat.le_refl _, Rd.nil⟩
/-- where there is a byte, there is an address -/
theorem BS.some_ (h : BS w v l) (hn : l ≠ []) : ∃ b o cap, v = .slice (some ⟨b, o, none⟩) l.length cap ∧ l.length ≤ cap ∧ b < w.heap.size ∧
    ∀ i c, l[i]? = some c → w.cell? ⟨b, o + i, none⟩ = some (.int .u8 c.toNat) := by
  obtain ⟨A, cap, rfl, hc, hr⟩ := h
  obtain ⟨b, o, rfl, hb, hx⟩ := hr (by simpa [byteV] using hn)
  refine ⟨b, o, cap, rfl, hc, hb, fun i c hi => ?_⟩
  obtain ⟨hlt, e⟩ := List.getElem?_eq_some_iff.1 hi
  have := hx i (by rw [byteV_len]; exact hlt)
  rw [this]; simp [byteV, e]
end bytes

theorem ofInt_i64 (a : Nat) (ha : a < 9223372036854775808) : (BitVec.ofInt 64 (a : Int)).toNat = a := by
  rw [BitVec.ofInt_natCast, BitVec.toNat_ofNat]; exact Nat.mod_eq_of_lt (by omega)
theorem i64_and_nat (a b : Nat) (ha : a < 9223372036854775808) (hb : b < 9223372036854775808) : bits .and .i64 (a : Int) (b : Int) = ((a &&& b : Nat) : Int) := by
  have hx : a &&& b < 2 ^ 63 := Nat.and_lt_two_pow _ (by omega)
  show IntKind.i64.wrap ((BitVec.ofInt 64 (a : Int) &&& BitVec.ofInt 64 (b : Int)).toNat : Int) = _
  rw [BitVec.toNat_and, ofInt_i64 a ha, ofInt_i64 b hb, IntKind.wrap_i64]
  omega
theorem i64_or_nat (a b : Nat) (ha : a < 9223372036854775808) (hb : b < 9223372036854775808) : bits .or .i64 (a : Int) (b : Int) = ((a ||| b : Nat) : Int) := by
  have hx : a ||| b < 2 ^ 63 := Nat.or_lt_two_pow (by omega) (by omega)
  show IntKind.i64.wrap ((BitVec.ofInt 64 (a : Int) ||| BitVec.ofInt 64 (b : Int)).toNat : Int) = _
  rw [BitVec.toNat_or, ofInt_i64 a ha, ofInt_i64 b hb, IntKind.wrap_i64]
  omega
theorem ofInt_u8 (a : Nat) (ha : a < 256) : (BitVec.ofInt 8 (a : Int)).toNat = a := by
  rw [BitVec.ofInt_natCast, BitVec.toNat_ofNat]; exact Nat.mod_eq_of_lt (by omega)
theorem u8_and_nat (a b : Nat) (ha : a < 256) (hb : b < 256) : bits .and .u8 (a : Int) (b : Int) = ((a &&& b : Nat) : Int) := by
  have hx : a &&& b < 2 ^ 8 := Nat.and_lt_two_pow _ (by omega)
  show IntKind.u8.wrap ((BitVec.ofInt 8 (a : Int) &&& BitVec.ofInt 8 (b : Int)).toNat : Int) = _
  rw [BitVec.toNat_and, ofInt_u8 a ha, ofInt_u8 b hb, IntKind.wrap_u8]
  omega
/-- a mask of low bits -/
theorem i64_mask (a k : Nat) (ha : a < 9223372036854775808) (hk : 2 ^ k ≤ 9223372036854775808) : bits .and .i64 (a : Int) ((2 ^ k - 1 : Nat) : Int) = ((a % 2 ^ k : Nat) : Int) := by
  rw [i64_and_nat _ _ ha (by have := Nat.two_pow_pos k; omega), Nat.and_two_pow_sub_one_eq_mod]
theorem u8_mask (a k : Nat) (ha : a < 256) (hk : 2 ^ k ≤ 256) : bits .and .u8 (a : Int) ((2 ^ k - 1 : Nat) : Int) = ((a % 2 ^ k : Nat) : Int) := by
  rw [u8_and_nat _ _ ha (by have := Nat.two_pow_pos k; omega), Nat.and_two_pow_sub_one_eq_mod]
/-- bits beside each other -/
theorem i64_join (a b k : Nat) (hb : b < 2 ^ k) (h : a * 2 ^ k + b < 9223372036854775808) : bits .or .i64 ((a * 2 ^ k : Nat) : Int) (b : Int) = ((a * 2 ^ k + b : Nat) : Int) := by
  rw [i64_or_nat _ _ (by omega) (by omega), Nat.mul_comm, Nat.two_pow_add_eq_or_of_lt hb]

theorem below_size {B : Nat} {w w' : World} (h : Below B w w') : w.heap.size ≤ w'.heap.size := h.size
theorem bcell {W w1 : World} (hb : Below W.heap.size W w1) : (∀ b o, b < W.heap.size → w1.cell? ⟨b, o, none⟩ = W.cell? ⟨b, o, none⟩) ∧ (∀ b o, b < W.heap.size → w1.frozen? ⟨b, o, none⟩ = W.frozen? ⟨b, o, none⟩) :=
  ⟨fun b o h => hb.cell (p := ⟨b, o, none⟩) h, fun b o h => hb.frozen (p := ⟨b, o, none⟩) h⟩
theorem bel_drewN {B : Nat} {a w : World} (h : Below B a w) (n : Nat) : Below B a (w.drewN n) := ⟨h.os, h.tape, h.output, h.size, h.block⟩
end Go.Proofs.YtalhoacancbldaaDoor
