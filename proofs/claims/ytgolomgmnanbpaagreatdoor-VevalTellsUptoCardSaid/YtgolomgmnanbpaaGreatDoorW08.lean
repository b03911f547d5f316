import Derived.Test.YtgolomgmnanbpaaGreatDoorW06
import Derived.Test.YtgolomgmnanbpaaGreatDoorW05
import Derived.Test.YtgolomgmnanbpaaGreatDoorW01
import Derived.Test.YtgolomgmnanbpaaGreatDoorW02
import Derived.WalkKit
import Derived.Test.YtgolomgmnanbpaaGreatDoorChecked
import Derived.Lib.OthersKept
import Derived.Lib.FrozenHead2
import Derived.Lib.UnsafeStr
import Derived.Lib.MakeNoZero
import Derived.Lib.AppendStr
import Derived.Lib.Strings
import Derived.Laws.IdiomCopy
import Derived.Laws.Externs
set_option maxRecDepth 100000
set_option maxHeartbeats 16000000
namespace Go.Proofs.YtgolomgmnanbpaaGreatDoor
set_option linter.unusedVariables false
set_option linter.unusedSimpArgs false
section Less
theorem ltB_cons (a b:UInt8) (x y:List UInt8):ltB (a::x) (b::y)=true ↔ a<b∨(a=b∧ltB x y=true):=by
 unfold ltB;rw [Op.bytesLess];by_cases h1:a<b<;>by_cases h2:a=b<;>simp [h1,h2]
theorem ltB_nil (x:List UInt8):ltB x []=false:=by cases x<;>rfl
theorem ltB_nil_cons (b:UInt8) (y:List UInt8):ltB [] (b::y)=true:=rfl
theorem ltB_irrefl:∀ x:List UInt8,¬ ltB x x=true
 | [],h=>by rw [ltB_nil] at h;cases h
 | a::x,h=>by
  rcases (ltB_cons a a x x).1 h with h | h
  ·have:=UInt8.lt_iff_toNat_lt.1 h;omega
  ·exact ltB_irrefl x h.2
theorem ltB_trans:∀ {x y z:List UInt8},ltB x y=true→ltB y z=true→ltB x z=true
 | _,[],_,h,_=>by rw [ltB_nil] at h;cases h
 | _,_::_,[],_,h=>by rw [ltB_nil] at h;cases h
 | [],_::_,c::z,_,_=>ltB_nil_cons c z
 | a::x,b::y,c::z,h1,h2=>by
  rw [ltB_cons] at h1 h2 ⊢;rcases h1 with h1 | ⟨rfl,h1⟩
  ·rcases h2 with h2 | ⟨rfl,h2⟩
   ·left;have:=UInt8.lt_iff_toNat_lt.1 h1;have:=UInt8.lt_iff_toNat_lt.1 h2;exact UInt8.lt_iff_toNat_lt.2 (by omega)
   ·exact .inl h1
  ·rcases h2 with h2 | ⟨rfl,h2⟩
   ·exact .inl h2
   ·exact .inr ⟨rfl,ltB_trans h1 h2⟩
theorem ltB_total:∀ {x y:List UInt8},x≠y→ltB x y=true∨ltB y x=true
 | [],[],h=>absurd rfl h
 | [],b::y,_=>.inl (ltB_nil_cons b y)
 | a::x,[],_=>.inr (ltB_nil_cons a x)
 | a::x,b::y,h=>by
  rw [ltB_cons,ltB_cons];by_cases hab:a=b
  ·subst hab;have hxy:x≠y:=fun e=>h (by rw [e])
   rcases ltB_total hxy with h1 | h1
   ·exact .inl (.inr ⟨rfl,h1⟩)
   ·exact .inr (.inr ⟨rfl,h1⟩)
  ·have:a.toNat≠b.toNat:=fun e=>hab (UInt8.toNat_inj.1 e)
   rcases Nat.lt_or_gt_of_ne this with h1 | h1
   ·exact .inl (.inl (UInt8.lt_iff_toNat_lt.2 h1))
   ·exact .inr (.inl (UInt8.lt_iff_toNat_lt.2 h1))
end Less
abbrev UpB (keys:List (List UInt8)):Prop:=keys.Pairwise fun a b=>ltB a b=true
theorem insPos_what (key:List UInt8) (keys:List (List UInt8)):∀ n,(∀ j,insPos key keys n≤j→j<n→ltB key (keys.getD j [])=true)∧(0<insPos key keys n→ltB key (keys.getD (insPos key keys n-1) [])=false)
 | 0=>⟨fun j h h'=>absurd h' (Nat.not_lt_zero _),fun h=>absurd h (Nat.lt_irrefl _)⟩
 | n+1=>by
  have ih:=insPos_what key keys n;unfold insPos;by_cases h:ltB key (keys.getD n [])=true
  ·rw [if_pos h];refine ⟨fun j h1 h2=>?_,ih.2⟩;rcases Nat.lt_or_ge j n with h3 | h3
   ·exact ih.1 j h1 h3
   ·obtain rfl:j=n:=by omega
    exact h
  ·rw [if_neg h];exact ⟨fun j h1 h2=>by omega,fun _=>by simpa using h⟩
theorem upB_ins {key:List UInt8} {keys:List (List UInt8)} (h:UpB keys) (hk:key ∉ keys):UpB (insAt keys (insPos key keys keys.length) key):=by
 obtain ⟨h1,h2⟩:=insPos_what key keys keys.length;have hle:=insPos_le key keys keys.length;generalize insPos key keys keys.length=p at h1 h2 hle;have hget:∀ {j},(hj:j<keys.length)→keys.getD j []=keys[j]:=fun {j} hj=>by rw [List.getD_eq_getElem?_getD,List.getElem?_eq_getElem hj];rfl
 have hp:=List.pairwise_iff_getElem.1 h;unfold insAt UpB;have hb:∀ x ∈ keys.take p,ltB x key=true:=by
  intro x hx;obtain ⟨j,hj,rfl⟩:=List.getElem_of_mem hx;rw [List.length_take] at hj;rw [List.getElem_take];have hp0:0<p:=by omega
  have h3:=h2 hp0;rw [hget (by omega)] at h3;have hne:keys[p-1]≠key:=fun e=>hk (by rw [← e];exact List.getElem_mem _)
  have h4:ltB keys[p-1] key=true:=by
   rcases ltB_total hne with h5 | h5
   ·exact h5
   ·rw [h5] at h3;cases h3
  rcases Nat.lt_or_ge j (p-1) with h6 | h6
  ·exact ltB_trans (hp j (p-1) (by omega) (by omega) h6) h4
  ·obtain rfl:j=p-1:=by omega
   exact h4
 have ha:∀ x ∈ keys.drop p,ltB key x=true:=by
  intro x hx;obtain ⟨j,hj,rfl⟩:=List.getElem_of_mem hx;rw [List.length_drop] at hj;rw [List.getElem_drop];have:=h1 (p+j) (by omega) (by omega);rwa [hget (by omega)] at this
 rw [List.pairwise_append];refine ⟨h.take,List.pairwise_cons.2 ⟨ha,h.drop⟩,fun x hx y hy=>?_⟩;rcases List.mem_cons.1 hy with rfl | hy
 ·exact hb x hx
 ·exact ltB_trans (hb x hx) (ha y hy)
def IsText (s:List UInt8):Prop:=∃ cs:List Nat,(∀ c ∈ cs,isCp (c:Int)=true)∧s=cs.flatMap cpBytes∧cs.length≤262144
theorem IsText.nil:IsText []:=⟨[],by simp,rfl,by simp⟩
structure aloneK (k n:Int) (s:List UInt8) (kids:List JV) (keys:List (List UInt8)):Prop where
 texts:∀ t ∈ keys,IsText t
 up:UpB keys
 kind:1≤k∧k≤6
 num:k≠3→n=0∨(k=2∧n=1)
 text:if k=4 then IsText s else s=[]
 leaf:k<5→kids=[]
 keyed:if k=6 then keys.length=kids.length else keys=[]
mutual
def nodesJ:JV→Nat | .mk _ _ _ kids _=>1+nodesL kids
def nodesL:List JV→Nat | []=>0 | x::r=>nodesJ x+nodesL r
end
mutual
def rightJ:Nat→JV→Prop
 | d,.mk k n s kids keys=>aloneK k n s kids keys∧(5≤k→d≠0)∧rightL (d-1) kids
def rightL:Nat→List JV→Prop
 | _,[]=>True
 | d,x::r=>rightJ d x∧rightL d r
end
theorem rightL_iff {d:Nat}:∀ {xs:List JV},rightL d xs ↔ ∀ x ∈ xs,rightJ d x
 | []=>by simp [rightL]
 | x::r=>by simp [rightL,rightL_iff (xs:=r)]
theorem nodesL_app:∀ (xs ys:List JV),nodesL (xs++ys)=nodesL xs+nodesL ys
 | [],ys=>by simp [nodesL]
 | x::r,ys=>by rw [List.cons_append,nodesL,nodesL,nodesL_app r ys];omega
theorem nodesL_ins (xs:List JV) (i:Nat) (x:JV):nodesL (insAt xs i x)=nodesL xs+nodesJ x:=by
 unfold insAt;rw [nodesL_app,nodesL];have:=nodesL_app (xs.take i) (xs.drop i);rw [List.take_append_drop] at this;omega
structure ObjW (d:Nat) (v:JV) (keys:List (List UInt8)) (N:Nat):Prop where
 num:v.num=0
 text:v.txt=[]
 texts:∀ t ∈ v.keys,IsText t
 up:UpB v.keys
 right:rightL d v.kids
 nodes:nodesL v.kids=N
 obj:IsObj v keys
theorem ObjW.nil (d:Nat):ObjW d (.mk 6 0 [] [] []) [] 0:=⟨rfl,rfl,by simp [JV.keys],by simp [JV.keys],trivial,rfl,rfl,rfl,fun s=>Iff.rfl⟩
theorem ObjW.add {d N:Nat} {v x:JV} {keys:List (List UInt8)} {s:List UInt8} (h:ObjW d v keys N) (hs:IsText s) (hn:s ∉ keys) (hx:rightJ d x):ObjW d (addKid v s x) (keys++[s]) (N+nodesJ x):=by
 have ho:=h.obj.add s x;obtain ⟨k,n,t,kids,ks⟩:=v;have hk:k=6:=h.obj.kind;have hl:ks.length=kids.length:=h.obj.len;have hns:s ∉ ks:=fun e=>hn ((h.obj.mem s).1 e)
 have e:addKid (.mk k n t kids ks) s x=.mk k n t (insAt kids (insPos s ks kids.length) x) (insAt ks (insPos s ks kids.length) s):=by
  unfold addKid;simp only;rw [if_pos hk]
 rw [e] at ho ⊢;refine ⟨h.num,h.text,fun y hy=>?_,?_,?_,?_,ho⟩
 ·rcases mem_insAt.1 hy with h1 | rfl
  ·exact h.texts y h1
  ·exact hs
 ·have:=upB_ins (key:=s) h.up hns;rw [show (JV.mk k n t kids ks).keys.length=kids.length from hl] at this;exact this
 ·refine rightL_iff.2 fun y hy=>?_
  rcases mem_insAt.1 hy with h1 | rfl
  ·exact rightL_iff.1 h.right y h1
  ·exact hx
 ·rw [JV.kids,nodesL_ins];have:nodesL kids=N:=h.nodes;omega
section RightR
variable {l:List UInt8}
end RightR
end Go.Proofs.YtgolomgmnanbpaaGreatDoor
namespace Go.Proofs.YtgolomgmnanbpaaGreatDoor
set_option linter.unusedVariables false
set_option linter.unusedSimpArgs false
end Go.Proofs.YtgolomgmnanbpaaGreatDoor
namespace Go.Proofs.YtgolomgmnanbpaaGreatDoor
set_option linter.unusedVariables false
set_option linter.unusedSimpArgs false
open Go.RowKit
attribute [local go_sem] run_index_arr run_part_agg run_part_one run_field_agg
end Go.Proofs.YtgolomgmnanbpaaGreatDoor
namespace Go.Proofs.YtgolomgmnanbpaaGreatDoor
set_option linter.unusedVariables false
set_option linter.unusedSimpArgs false
open Go.RowKit
attribute [local go_sem] run_index_arr run_part_agg run_part_one run_field_agg
end Go.Proofs.YtgolomgmnanbpaaGreatDoor
namespace Go.Proofs.YtgolomgmnanbpaaGreatDoor
set_option linter.unusedVariables false
set_option linter.unusedSimpArgs false
open Go.RowKit
attribute [local go_sem] run_index_arr run_part_agg run_part_one run_field_agg
theorem BS.dropN {w:World} {b o n cap:Nat} {l:List UInt8} (h:Rd w (some ⟨b,o,none⟩) (byteV l)) (hcap:l.length≤cap) (k:Nat) (hk:k≤l.length):BS w (.slice (some ⟨b,o+k,none⟩) (l.length-k) (cap-k)) (l.drop k):=by
 refine ⟨_,_,by rw [List.length_drop],by rw [List.length_drop];omega,?_⟩;have h1:=h.drop k;have e:((some (⟨b,o,none⟩:Addr)).map fun a=>a.add k)=some ⟨b,o+k,none⟩:=by
  simp only [Option.map_some,Option.some.injEq];unfold Addr.add;split<;>simp_all
 rw [e] at h1;simpa [byteV,List.map_drop] using h1
end Go.Proofs.YtgolomgmnanbpaaGreatDoor
namespace Go.Proofs.YtgolomgmnanbpaaGreatDoor
set_option linter.unusedVariables false
set_option linter.unusedSimpArgs false
open Go.RowKit
theorem cpBegin_ascii {c:UInt8} {r:List UInt8} (h:c.toNat<128):cpBegin (c::r)=(c.toNat,1):=by
 rw [begin_1 ((ok1 c r).2 h)];simp [cpNum]
end Go.Proofs.YtgolomgmnanbpaaGreatDoor
namespace Go.Proofs.YtgolomgmnanbpaaGreatDoor
set_option linter.unusedVariables false
set_option linter.unusedSimpArgs false
open Go.RowKit
attribute [local go_sem] run_index_arr run_part_agg run_part_one run_field_agg
theorem infoInt:(Tryz.prog.info? 3).map (fun i=>(i.zero,i.size,i.bytes))=some (some (.int .i64 0),1,8):=by kernel_rfl
def intV (l:List Int):List Value:=l.map (Value.int .i64)
def IS (w:World) (v:Value) (l:List Int):Prop:=∃ A cap,v=.slice A l.length cap∧l.length≤cap∧Rd w A (intV l)
theorem IS.of_own {w:World} {base:Nat} {e:TypeId} {v:Value} {l:List Int} {n:Nat} (hn:n=l.length) (h:w.ownsRow base e 1 v n (intV l)):IS w v l:=by
 subst hn;obtain ⟨A,cap,rfl,hc,hr⟩:=Rd.of_own h;exact ⟨A,cap,rfl,hc,hr⟩
theorem gb_of_below {w w':World} (h:Below w.heap.size w w'):w.grownBy w' none:=⟨h.os,h.tape,h.output,h.size,fun k hk _=>h.block k hk⟩
theorem own_below {w w':World} {base:Nat} {e:TypeId} {size n:Nat} {v:Value} {xs:List Value} (h:w.ownsRow base e size v n xs) (hb:Below w.heap.size w w'):w'.ownsRow base e size v n xs :=
 h.kept (gb_of_below hb) (by cases v.ownBlock<;>simp)
end Go.Proofs.YtgolomgmnanbpaaGreatDoor
namespace Go.Proofs.YtgolomgmnanbpaaGreatDoor
open Go.RowKit
theorem mul_fits (a b n:Int) (ha:-9223372036854775808≤a∧a≤9223372036854775807) (hb:-9223372036854775808≤b∧b≤9223372036854775807) (hn:n=IntKind.i64.wrap (a*b)) :
  (a=0∨(IntKind.i64.wrap (n.tdiv a)=b∧¬ (a = -1∧b = -9223372036854775808))) ↔ (-9223372036854775808≤a*b∧a*b≤9223372036854775807):=by
 rw [IntKind.wrap_i64] at hn;generalize hp:a*b=p at *;by_cases h0:a=0
 ·subst h0;have:p=0:=by rw [← hp];simp
  omega
 have hdm:=Int.mul_tdiv_add_tmod n a;have hlt:(n.tmod a).natAbs<a.natAbs:=by
  rw [Int.natAbs_tmod];exact Nat.mod_lt _ (by omega)
 generalize hq:n.tdiv a=q at *;generalize hr:n.tmod a=r at *;rw [IntKind.wrap_i64];constructor
 ·rintro (h | ⟨h1,h2⟩)
  ·exact absurd h h0
  ·by_cases hqi:-9223372036854775808≤q∧q≤9223372036854775807
   ·have:q=b:=by omega
    subst this;rw [hp] at hdm;omega
   ·exfalso;have hqn:q.natAbs≤n.natAbs / a.natAbs:=by
     rw [← hq,Int.natAbs_tdiv];exact Nat.le_refl _
    have ha1:a.natAbs=1:=by
     rcases Nat.lt_or_ge a.natAbs 2 with h | h
     ·omega
     ·exfalso;have:n.natAbs / a.natAbs≤n.natAbs / 2:=Nat.div_le_div_left h (by decide);omega
    have:a=1∨a = -1:=by omega
    rcases this with rfl | rfl
    ·omega
    ·have hb':b = -9223372036854775808:=by omega
     exact h2 ⟨rfl,hb'⟩
 ·intro h;right;have hnp:n=p:=by omega
  subst hnp;have:q=b:=by
   rw [← hq,← hp];exact Int.mul_tdiv_cancel_left b h0
  subst this;refine ⟨by omega,?_⟩;rintro ⟨rfl,rfl⟩;omega
end Go.Proofs.YtgolomgmnanbpaaGreatDoor
namespace Go.Proofs.YtgolomgmnanbpaaGreatDoor
theorem Blk.set8C {w:World} {g:Nat} {t:TypeId} {c0 c1 c2 c3 c4 c5 c6 c7:Value} (h:Blk w g t #[c0,c1,c2,c3,c4,c5,c6,c7]) (x0 x1 x2 x3 x4 x5 x6 x7:Value):Blk (w.setCells g 0 [x0,x1,x2,x3,x4,x5,x6,x7]) g t #[x0,x1,x2,x3,x4,x5,x6,x7] :=
 (((((((h.set_ 0 x0).set_ 1 x1).set_ 2 x2).set_ 3 x3).set_ 4 x4).set_ 5 x5).set_ 6 x6).set_ 7 x7
set_option linter.unusedVariables false
set_option linter.unusedSimpArgs false
open Go.RowKit
abbrev WAt (B g:Nat) (p:Value) (l:List UInt8) (w:World):Prop:=Lib.BuilderAt 119 5 B g p (Lib.byteCells l) w
abbrev WIs (B g:Nat) (l:List UInt8) (w:World):Prop:=Lib.IsBuilder 119 5 B g (Lib.byteCells l) w
abbrev OthW (g:Nat) (w w':World):Prop:=Lib.OthersKept 5 (some g) w w'
def WPost (B g:Nat) (l:List UInt8) (r:Ending) (w:World) (e:Ending) (w':World):Prop:=e=r∧WIs B g l w'∧Below B w w'∧OthW g w w'
theorem WIs.some_ {B g:Nat} {l:List UInt8} {w:World} (h:WIs B g l w):∃ p,WAt B g p l w:=by
 rcases h with h | h<;>exact ⟨_,h⟩
end Go.Proofs.YtgolomgmnanbpaaGreatDoor
