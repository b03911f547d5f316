import Derived.Test.YtgmnmnnoahdjnaaGreatDoorH36
import Derived.Shelf.SlGeneric
import Derived.Shelf.Sort.Plain
import Derived.Shelf.Slices.CompactS
import Derived.Shelf.Slices.In.SortNone
import Derived.Sort.OwnSorted
import Derived.Lib.OwnBridge
import Derived.Test.YtgmnmnnoahdjnaaGreatDoorH32
open Go.Value renaming int → Zi, slice → Zs, string → Zt, pointer → Zp
open Go.IntKind renaming i64 → Zq
set_option maxRecDepth 100000
set_option maxHeartbeats 16000000
set_option linter.unusedVariables false
set_option linter.unusedSimpArgs false
namespace Go.Proofs.YtgmnmnnoahdjnaaGreatDoor
section
theorem oM:∀ {l l':List (List UInt8)},l.Pairwise (· < ·)->l'.Pairwise (· < ·)->(∀ x,x ∈ l ↔ x ∈ l')->l=l'
 | [],[],_,_,_=>rfl
 | [],y::r,_,_,h=>by have:=(h y).2 List.mem_cons_self;cases this
 | x::r,[],_,_,h=>by have:=(h x).1 List.mem_cons_self;cases this
 |x::r,y::r',h1,h2,h=>by
  rw [List.pairwise_cons] at h1 h2;have e:x=y:=by
   rcases List.mem_cons.1 ((h x).1 List.mem_cons_self) with e | hx
   ·exact e
   rcases List.mem_cons.1 ((h y).2 List.mem_cons_self) with e | hy
   ·exact e.symm
   exact absurd (List.lt_trans (h1.1 y hy) (h2.1 x hx)) (List.lt_irrefl x)
  subst e;congr 1;refine oM h1.2 h2.2 λ z=>⟨λ hz=>?_,λ hz=>?_⟩
  ·rcases List.mem_cons.1 ((h z).1 (List.mem_cons_of_mem _ hz)) with rfl | h3
   ·exact absurd (h1.1 z hz) (List.lt_irrefl z)
   ·exact h3
  ·rcases List.mem_cons.1 ((h z).2 (List.mem_cons_of_mem _ hz)) with rfl | h3
   ·exact absurd (h2.1 z hz) (List.lt_irrefl z)
   ·exact h3
section
variable {d:Array (List UInt8)}
theorem ur {n:Nat} {x:List UInt8}:x ∈ Lib.compactUpTo d n ↔ ∃ i,i<n/\d[i]! = x:=by
 unfold Lib.compactUpTo;rw [List.mem_map];constructor
 ·rintro ⟨i,hi,rfl⟩;rw [List.mem_filter,List.mem_range] at hi;exact ⟨i,hi.1,rfl⟩
 ·rintro ⟨i,hi,rfl⟩
  induction i with
  | zero=>exact ⟨0,by rw [List.mem_filter,List.mem_range];exact ⟨hi,by simp [Lib.keeps]⟩,rfl⟩
  |succ i ih =>
   by_cases hk:d[i+1]! = d[i]!
   ·obtain ⟨j,hj,e⟩:=ih (by omega);exact ⟨j,hj,by rw [hk];exact e⟩
   ·exact ⟨i+1,by rw [List.mem_filter,List.mem_range];exact ⟨hi,by simp [Lib.keeps,hk]⟩,rfl⟩
theorem oX {n:Nat} (h:∀ i j,i<=j->j<n->d[i]! <= d[j]!):(Lib.compactUpTo d n).Pairwise (· < ·):=by
 unfold Lib.compactUpTo;rw [List.pairwise_map];refine ((List.pairwise_lt_range (n:=n)).filter _).imp_of_mem ?_;intro i j hi hj hij;rw [List.mem_filter,List.mem_range] at hj;have hk:d[j]! ≠ d[j-1]! := by
  have:=hj.2;simp [Lib.keeps] at this;rcases this with h | h
  ·omega
  ·exact h
 have h1:=h i (j-1) (by omega) (by omega);have h2:=h (j-1) j (by omega) hj.1;have h3:d[j-1]! < d[j]! := by
  rcases List.le_iff_lt_or_eq.1 h2 with h | h
  ·exact h
  ·exact absurd h.symm hk
 rcases List.le_iff_lt_or_eq.1 h1 with h | h
 ·exact List.lt_trans h h3
 ·rw [h];exact h3
end
theorem tD {l:List (List UInt8)} {x:List UInt8}:x ∈ kN l ↔ x ∈ l:=by
 unfold kN Lib.compact;rw [ur,← (List.mergeSort_perm l λ x y=>decide (x<=y)).mem_iff];constructor
 ·rintro ⟨i,hi,rfl⟩;rw [getElem!_pos _ i (by simpa using hi)];simp
 ·intro h;obtain ⟨i,hi,rfl⟩:=List.getElem_of_mem h;exact ⟨i,hi,by rw [getElem!_pos _ i (by simpa using hi)];simp⟩
theorem oC (l:List (List UInt8)):(kN l).Pairwise (· < ·):=by
 unfold kN Lib.compact;refine oX λ i j hij hj=>?_
 have hs:=List.pairwise_mergeSort (le:=λ x y:List UInt8=>decide (x<=y)) (λ a b c h1 h2=>by simp only [decide_eq_true_eq] at *;exact List.le_trans h1 h2) (λ a b=>by simp only [Bool.or_eq_true,decide_eq_true_eq];exact List.le_total a b) l;rw [getElem!_pos _ i (by simp at hj ⊢;omega),getElem!_pos _ j (by simpa using hj)];rcases Nat.lt_or_ge i j with h | h
 ·have:=(List.pairwise_iff_getElem.1 hs) i j (by omega) (by omega) h;simpa using this
 ·obtain rfl:i=j:=by omega
  exact List.le_refl _
theorem tC (l:List (List UInt8)):(kN l).length<=l.length:=by
 unfold kN;unfold Lib.compact Lib.compactUpTo;rw [List.length_map];refine Nat.le_trans (List.length_filter_le _ _) ?_;rw [List.length_range,List.length_mergeSort];exact Nat.le_refl _
def jM (t:List UInt8) (l:List (List UInt8)):List (List UInt8):=l.takeWhile (λ x=>decide (x<t))++t::l.dropWhile (λ x=>decide (x<t))
def cu (out:List (List UInt8)) (t:List UInt8):List (List UInt8):=if t ∈ out then out else jM t out
theorem nP {t x:List UInt8} {l:List (List UInt8)}:x ∈ jM t l ↔ x=t∨x ∈ l:=by
 have h:=List.takeWhile_append_dropWhile (p:=λ x=>decide (x<t)) (l:=l);unfold jM;rw [List.mem_append,List.mem_cons]
 conv=>rhs;rw [← h,List.mem_append]
 constructor
 ·rintro (h | h | h)
  ·exact .inr (.inl h)
  ·exact .inl h
  ·exact .inr (.inr h)
 ·rintro (h | h | h)
  ·exact .inr (.inl h)
  ·exact .inl h
  ·exact .inr (.inr h)
theorem jy {t:List UInt8}:∀ {l:List (List UInt8)},l.Pairwise (· < ·)->t ∉ l->(jM t l).Pairwise (· < ·)
 | [],_,_=>by simp [jM]
 |x::r,h,ht=>by
  rw [List.pairwise_cons] at h;unfold jM;by_cases hx:x<t
  ·rw [List.takeWhile_cons_of_pos (by simpa using hx),List.dropWhile_cons_of_pos (by simpa using hx),List.cons_append,List.pairwise_cons];have ih:=jy h.2 (λ hm=>ht (List.mem_cons_of_mem _ hm));refine ⟨λ y hy=>?_,ih⟩;rcases nP.1 hy with rfl | hy
   ·exact hx
   ·exact h.1 y hy
  ·rw [List.takeWhile_cons_of_neg (by simpa using hx),List.dropWhile_cons_of_neg (by simpa using hx),List.nil_append,List.pairwise_cons];have htx:t<x:=by
    rcases List.le_iff_lt_or_eq.1 (List.not_lt.1 hx) with h | h
    ·exact h
    ·exact absurd (h ▸ List.mem_cons_self) ht
   refine ⟨λ y hy=>?_,List.pairwise_cons.2 h⟩;rcases List.mem_cons.1 hy with rfl | hy
   ·exact htx
   ·exact List.lt_trans htx (h.1 y hy)
theorem nH:∀ (l out:List (List UInt8)),out.Pairwise (· < ·)->(l.foldl cu out).Pairwise (· < ·)/\∀ x,x ∈ l.foldl cu out ↔ x ∈ out∨x ∈ l
 | [],out,h=>⟨h,by simp⟩
 |t::r,out,h=>by
  have h1:(cu out t).Pairwise (· < ·)/\∀ x,x ∈ cu out t ↔ x ∈ out∨x=t:=by
   unfold cu;split
   ·rename_i hm
    exact ⟨h,λ x=>⟨.inl,λ hx=>hx.elim id λ e=>e ▸ hm⟩⟩
   ·rename_i hm
    exact ⟨jy h hm,λ x=>nP.trans or_comm⟩
  obtain ⟨a,b⟩:=nH r (cu out t) h1.1;refine ⟨a,λ x=>?_⟩;rw [List.foldl_cons,b x,h1.2 x,List.mem_cons,or_assoc]
theorem lI (l:List SJ):(bB [] l).foldl cu []=gM l:=by
 rw [iv];obtain ⟨h1,h2⟩:=nH (bB [] l) [] List.Pairwise.nil;exact oM h1 (oC _) λ x=>by rw [h2 x,tD];simp
theorem sW (out:List (List UInt8)) (t:List UInt8):(cu out t).length<=out.length+1:=by
 unfold cu;split
 ·omega
 ·unfold jM;have h:=congrArg List.length (List.takeWhile_append_dropWhile (p:=λ x=>decide (x<t)) (l:=out));rw [List.length_append] at h;rw [List.length_append,List.length_cons];omega
mutual
def rgS (known:List (List UInt8)) (n:Nat):SJ->Int
 | .mk k s a b body els=>if ∃ t ∈ aF a++aF b,t ∉ known then 340
   else if k=3 then (if s ∈ known then 341 else if n=2 then 342 else if rgL (known++[s]) (n+1) body≠0 then rgL (known++[s]) (n+1) body else rgL known n els)
   else if rgL known n body≠0 then rgL known n body else rgL known n els
def rgL (known:List (List UInt8)) (n:Nat):List SJ->Int
 | []=>0
 | x::r=>if rgS known n x≠0 then rgS known n x else rgL known n r
end
def knw (bd:List (List UInt8)):List (List UInt8):=[100,111,99]::[105,100]::bd
theorem jV {t:List UInt8} {bd:List (List UInt8)}:t ∈ knw bd ↔ (giv t=true∨t ∈ bd):=by
 unfold knw giv;simp [or_assoc]
theorem mr (bd:List (List UInt8)):∀ l:List (List UInt8),gvN ckG bd () l=if ∃ t ∈ l,t ∉ knw bd then .error 340 else .ok ()
 | []=>by simp [gvN]
 |t::r=>by
  rw [gvN];show thn (if giv t=true∨t ∈ bd then .ok () else .error 340) _=_
  by_cases h:giv t=true∨t ∈ bd
  ·rw [if_pos h,bq,mr bd r];have:(∃ x ∈ t::r,x ∉ knw bd) ↔ ∃ x ∈ r,x ∉ knw bd:=by
    simp only [List.mem_cons,exists_eq_or_imp];exact ⟨λ h'=>h'.elim (λ h'=>absurd (jV.2 h) h') id,.inr⟩
   by_cases h2:∃ x ∈ r,x ∉ knw bd
   ·rw [if_pos h2,if_pos (this.2 h2)]
   ·rw [if_neg h2,if_neg (λ h'=>h2 (this.1 h'))]
  ·rw [if_neg h,cE,if_pos ⟨t,List.mem_cons_self,λ h'=>h (jV.1 h')⟩]
def e0 (a:Except Int Unit):Prop:=∀ e,a=.error e->e≠0
theorem fO {a:Except Int Unit} {f:Unit->Except Int Unit} (h:e0 a):fN (thn a f)=if fN a≠0 then fN a else fN (f ()):=by
 cases a with
 | ok x=>simp [thn,fN]
 | error e=>have:=h e rfl;simp [thn,fN,this]
theorem ke {a:Except Int Unit} {f:Unit->Except Int Unit} (h:e0 a) (h':e0 (f ())):e0 (thn a f):=by
 cases a with
 | ok x=>exact h'
 | error e=>exact h
theorem yi (bd:List (List UInt8)) (l:List (List UInt8)):e0 (gvN ckG bd () l):=by
 rw [mr];intro e he;split at he
 ·injection he with he;omega
 ·cases he
theorem xw (s:List UInt8) (bd:List (List UInt8)):e0 (ckG.lp () s bd):=by
 intro e he;change (if giv s=true∨s ∈ bd then Except.error 341 else if 2<=bd.length then .error 342 else .ok ())=_ at he;split at he
 ·injection he with he;omega
 ·split at he
  ·injection he with he;omega
  ·cases he
mutual
theorem wW:∀ (x:SJ) (bd:List (List UInt8)),bd.length<=2->rgS (knw bd) bd.length x=fN (gvS ckG bd x ())/\e0 (gvS ckG bd x ())
 | .mk k s a b body els,bd,hb=>by
  have hE:=kM els bd hb;have hB:=kM body bd hb;have hBs:=λ h:bd.length+1<=2=>kM body (bd++[s]) (by simp;omega)
  have hN:=yi bd (aF a++aF b);by_cases hk:k=3
  ·have hL:=xw s bd;have hmid:e0 (thn (ckG.lp () s bd) λ st2=>gvL ckG (bd++[s]) body st2)/\fN (thn (ckG.lp () s bd) λ st2=>gvL ckG (bd++[s]) body st2)=(if s ∈ knw bd then 341 else if bd.length=2 then 342 else rgL (knw bd++[s]) (bd.length+1) body):=by
    show e0 (thn (if giv s=true∨s ∈ bd then .error 341 else if 2<=bd.length then .error 342 else .ok ()) _)/\fN (thn (if giv s=true∨s ∈ bd then .error 341 else if 2<=bd.length then .error 342 else .ok ()) _)=_
    by_cases h1:giv s=true∨s ∈ bd
    ·rw [if_pos h1,if_pos (jV.2 h1)];exact ⟨λ e he=>by rw [cE] at he;injection he with he;omega,rfl⟩
    ·rw [if_neg h1,if_neg (λ h=>h1 (jV.1 h))];by_cases h2:2<=bd.length
     ·rw [if_pos h2,if_pos (by omega)];exact ⟨λ e he=>by rw [cE] at he;injection he with he;omega,rfl⟩
     ·rw [if_neg h2,if_neg (by omega),bq];have:=hBs (by omega);rw [List.length_append,List.length_singleton] at this;exact ⟨this.2,this.1.symm⟩
   have hmm:e0 (thn (if k=3 then thn (ckG.lp () s bd) λ st2=>gvL ckG (bd++[s]) body st2 else gvL ckG bd body ()) λ st3=>gvL ckG bd els st3):=by rw [if_pos hk];exact ke hmid.1 hE.2
   rw [gvS];refine ⟨?_,ke hN hmm⟩;rw [fO hN,if_pos hk,fO hmid.1,hmid.2,mr,rgS,if_pos hk,← hE.1];by_cases h1:∃ t ∈ aF a++aF b,t ∉ knw bd
   ·rw [if_pos h1,if_pos h1];simp [fN]
   ·rw [if_neg h1,if_neg h1];simp only [fN,ne_eq,not_true_eq_false,if_false];by_cases h2:s ∈ knw bd
    ·simp [h2]
    ·by_cases h3:bd.length=2
     ·simp [h2,h3]
     ·simp [h2,h3]
  ·have hmm:e0 (thn (if k=3 then thn (ckG.lp () s bd) λ st2=>gvL ckG (bd++[s]) body st2 else gvL ckG bd body ()) λ st3=>gvL ckG bd els st3):=by rw [if_neg hk];exact ke hB.2 hE.2
   rw [gvS];refine ⟨?_,ke hN hmm⟩;rw [fO hN,if_neg hk,fO hB.2,mr,rgS,if_neg hk,← hE.1,← hB.1];by_cases h1:∃ t ∈ aF a++aF b,t ∉ knw bd
   ·rw [if_pos h1,if_pos h1];simp [fN]
   ·rw [if_neg h1,if_neg h1];simp only [fN,ne_eq,not_true_eq_false,if_false]
theorem kM:∀ (l:List SJ) (bd:List (List UInt8)),bd.length<=2->rgL (knw bd) bd.length l=fN (gvL ckG bd l ())/\e0 (gvL ckG bd l ())
 | [],bd,_=>⟨by rw [rgL,gvL];rfl,λ e he=>by rw [gvL] at he;cases he⟩
 |x::r,bd,hb=>by
  have h1:=wW x bd hb;have h2:=kM r bd hb;rw [gvL];refine ⟨?_,ke h1.2 h2.2⟩;rw [fO h1.2,rgL,h1.1,h2.1]
end
theorem qS (l:List SJ):cX l=if ff l=true then rgL (knw []) 0 l else 332:=by
 unfold cX;rw [← (kM l [] (by simp)).1];rfl
theorem nI (bd:List (List UInt8)):∀ p q:List SJ,bB bd (p++q)=bB bd p++bB bd q
 | [],q=>by simp [bB]
 | x::r,q=>by rw [List.cons_append,bB,bB,nI bd r q,List.append_assoc]
theorem nu:∀ p q:List SJ,cV (p++q)=max (cV p) (cV q)
 | [],q=>by simp [cV]
 | x::r,q=>by rw [List.cons_append,cV,cV,nu r q,Nat.max_assoc]
def nmE (s:List UInt8):EJ:=.mk 2 cJ s []
end
end Go.Proofs.YtgmnmnnoahdjnaaGreatDoor
namespace Go.Proofs
open Go.Shelf
shelf_lay Lays.n190 Nm 190 at Tryz as Tryz.laysSortS
shelf_lay Lays.n194 Nm 194 at Tryz as Tryz.laysCompS
end Go.Proofs
namespace Go.Proofs.YtgmnmnnoahdjnaaGreatDoor
open Go.RowKit Go.Shelf Go.Sort
attribute [local go_sem] ab ae af ac
theorem vg (l:List (List UInt8)) (base:Nat) (row:Value) (n:Nat) (w:World) (hl:l.length=n) (hn:n<=16777216) (hO:w.ownsRow base 9 1 row n (ar l)) (hb:base<=w.heap.size) :
  Calls Tryz.prog 37 #[row] w λ e w'=>e=.returned (.tuple #[])/\w'.ownsRow base 9 1 row n (ar (l.mergeSort λ x y=>decide (x<=y)))/\Below base w w':=by
 subst hl;rcases hO.2 with ⟨rfl,h0⟩ | ⟨g,cap,cur,rfl,hbase,hh,h1,h2,h3,h4⟩
 ·have:l=[]:=List.eq_nil_of_length_eq_zero h0;subst this;refine (Any.slices_Sort_string_none Tryz.laysSortS none 0 w).mono ?_;rintro e w' ⟨rfl,rfl⟩;exact ⟨rfl,by simpa using hO,Below.refl _ _⟩
 ·have hg:g<w.heap.size:=(Array.getElem?_eq_some_iff.1 hh).1;have hH:Holds encStr w g 0 l.toArray:=holds_of_block hh (by rw [Nat.mul_one] at h4;exact h4);refine (Any.slices_Sort_string Tryz.laysSortS g 0 cap l w hH hg (by omega)).mono ?_;rintro e w' ⟨rfl,q,os,rfl⟩;have hlen:(l.mergeSort λ x y=>decide (x<=y)).length=l.length:=List.length_mergeSort l;exact ⟨rfl,ownsRow_sorted hlen hbase hh h1 h2 h3,(Below.refl base w).grown (grownBy_sorted _) hb λ k e=>by cases e;exact hbase⟩
theorem ut (l:List (List UInt8)) (base:Nat) (row:Value) (n:Nat) (w:World) (hl:l.length=n) (hn:n<=16777216) (hO:w.ownsRow base 9 1 row n (ar l)) (hb:base<=w.heap.size) :
  Calls Tryz.prog 38 #[row] w λ e w' => ∃ v,e=.returned v/\w'.ownsRow base 9 1 v (Lib.compact l).length (ar (Lib.compact l))/\Below base w w':=by
 subst hl;have hO':=hO;rcases hO.2 with ⟨rfl,h0⟩ | ⟨g,cap,cur,rfl,hbase,hh,h1,h2,h3,h4⟩
 ·have:l=[]:=List.eq_nil_of_length_eq_zero h0;subst this;refine (Any.slices_Compact_string_empty Tryz.laysCompS none 0 w).mono ?_;rintro e w' ⟨rfl,rfl⟩;exact ⟨_,rfl,World.ownsRow_nil _ _ _ _,Below.refl _ _⟩
 ·have hg:g<w.heap.size:=(Array.getElem?_eq_some_iff.1 hh).1;have hH:Holds encStr w g 0 l.toArray:=holds_of_block hh (by rw [Nat.mul_one] at h4;exact h4);refine (Any.slices_Compact_string Tryz.laysCompS g 0 cap l w hH (by omega) h1).mono ?_;rintro e w' ⟨rfl,q,rfl⟩;have hle:(Lib.compact l).length<=l.length:=by
   unfold Lib.compact Lib.compactUpTo;rw [List.length_map];exact Nat.le_trans (List.length_filter_le _ _) (by rw [List.length_range];exact Nat.le_refl _)
  have h9:=Lib.ownsRow_putRow (enc:=encStr) (q:=q) (k:=(Lib.compact l).length) (ys:=Lib.compact l++List.replicate (l.length-(Lib.compact l).length) []) hO' (by simp;omega) hle;rw [List.take_left] at h9;exact ⟨_,rfl,h9,Lib.below_putRow (Below.refl base w) hbase⟩
/-- vcheck.sorted -/
theorem sg (l:List (List UInt8)) (base:Nat) (row:Value) (n:Nat) (w:World) (hl:l.length=n) (hn:n<=16777216) (hO:w.ownsRow base 9 1 row n (ar l)) (hb:base<=w.heap.size) :
  Calls Tryz.prog 65 #[row] w λ e w' => ∃ v,e=.returned v/\w'.ownsRow base 9 1 v (kN l).length (ar (kN l))/\Below base w w':=by
 have HS:=aW (vg l base row n w hl hn hO hb);have HC:=aW (λ (w':World) (h:w'.ownsRow base 9 1 row n (ar (l.mergeSort λ x y=>decide (x<=y)))) (hb:base<=w'.heap.size)=>ut (l.mergeSort λ x y=>decide (x<=y)) base row n w' (by rw [List.length_mergeSort];exact hl) hn h hb);have HB:=aW hb;clear hO hl hn hb;go_enter Tryz.func65,Tryz.ntmps65;go_wp2_with fail;refine HS.out.mono ?_;rintro e w1 ⟨rfl,ho,hb1⟩;have HC1:=aW (HC.out w1 ho (Nat.le_trans HB.out hb1.size));have HB1:=aW hb1;clear ho hb1;go_wp2_with fail;refine HC1.out.mono ?_;rintro e w2 ⟨v,rfl,ho,hb2⟩;go_wp2;go_ret;exact ⟨v,rfl,ho,HB1.out.trans hb2⟩
end Go.Proofs.YtgmnmnnoahdjnaaGreatDoor
namespace Go.Proofs.YtgmnmnnoahdjnaaGreatDoor
section
theorem kQ (l:List UInt8):∀ k a,(cY l k a).length<=k
 | 0,a=>by simp [cY]
 |k+1,a=>by
  unfold cY;split
  ·rw [List.length_cons];have:=kQ l k (qsS l a).2.1.toNat;omega
  ·simp
theorem yh (c:Nat):(ai c).length<=4:=by
 unfold ai
 repeat' split
 all_goals simp
theorem jC:∀ xs:List (Int × Int),(bv xs).length<=4*xs.length
 | []=>by simp [bv]
 |x::r=>by
  have h1:=yh x.1.toNat;have h2:=jC r;unfold bv at h2 ⊢;rw [List.flatMap_cons,List.length_append,List.length_cons];omega
theorem pz (l:List UInt8) (a:Int):(dt l a).1.length<=4*l.length:=by
 unfold dt;split
 ·simp
 split
 ·simp
 split
 ·simp
 split
 ·show (bv (aR l (a.toNat+1))).length<=_
  have h1:=jC (aR l (a.toNat+1));have h2:=kQ l (l.length-(a.toNat+1)) (a.toNat+1);unfold aR at h1 ⊢;omega
 ·simp
theorem pt (l:List UInt8) (a:Int):(co l a).2.2=0->iw (co l a).1:=by
 unfold co;split
 ·intro h;cases h
 ·cases dM l (bT a.toNat) with
  |mk st q =>
   cases q with
   | some p=>intro h;cases h
   |none =>
    simp only;unfold bF;split
    ·intro h;cases h
    ·rename_i h
     intro _;have h2:¬ dL st.minus<st.size:=λ h3=>h (by simp [h3])
     unfold dL at h2;unfold iw;simp only;cases hm:st.minus
     ·rw [hm] at h2;simp at h2 ⊢;omega
     ·rw [hm] at h2;simp at h2 ⊢;omega
theorem vj {l:List UInt8} {p:Nat} {k n:Int} {t:List UInt8} {m:Nat} (h:cK l p=.inl (k,t,n,m)):t.length<=4*l.length+2/\iw n:=by
 have tw:∀ (x:List UInt8) (q:Nat),((x.drop q).takeWhile dS).length<=x.length:=λ x q=>by
  have h1:=(List.takeWhile_sublist (p:=dS) (l:=x.drop q)).length_le;rw [List.length_drop] at h1;omega
 unfold cK at h;split at h
 ·split at h
  ·unfold fl at h;have h1:=tw l p;simp only at h;split at h
   ·injection h with h;injection h with _ h;injection h with h2 h;injection h with h3 _
    subst h2 h3;exact ⟨by omega,by decide⟩
   split at h
   ·injection h with h;injection h with _ h;injection h with h2 h;injection h with h3 _
    subst h2 h3;exact ⟨by omega,by decide⟩
   ·cases h
  split at h
  ·unfold dw at h;simp only at h;split at h
   ·rename_i h0
    injection h with h;injection h with _ h;injection h with h2 h;injection h with h3 _
    subst h2 h3;refine ⟨?_,pt l p h0⟩;rw [List.length_take,List.length_drop];omega
   ·cases h
  split at h
  ·unfold gi at h;simp only at h;split at h
   ·injection h with h;injection h with _ h;injection h with h2 h;injection h with h3 _
    subst h2 h3;have:=pz l p;exact ⟨by omega,by decide⟩
   ·cases h
  ·unfold fo at h;split at h
   ·rename_i s hs
    injection h with h;injection h with _ h;injection h with h2 h;injection h with h3 _
    subst h2 h3;have:∀ x ∈ cc,x.length<=2:=by decide
    have:=this _ (eD hs).1;exact ⟨by omega,by decide⟩
   ·cases h
 ·cases h
theorem tF {l:List UInt8}:∀ (k p:Nat),∀ t ∈ (fm l k p).1,t.2.2.1.length<=4*l.length+2/\iw t.2.2.2
 | 0,_,t,h=>by simp [fm] at h
 |k+1,p,t,h=>by
  unfold fm at h;split at h
  ·cases hv:cK l (bM l p) with
   | inr e=>rw [hv] at h;simp at h
   |inl r =>
    obtain ⟨kd,s,n,m⟩:=r;rw [hv] at h;simp only at h;rcases List.mem_cons.1 h with rfl | h
    ·exact vj hv
    ·exact tF k m t h
  ·obtain rfl:=List.mem_singleton.1 h;exact ⟨by simp,by show iw 0;decide⟩
theorem mh {l:List UInt8}:∀ {k p:Nat} {e:Int × Int},(fm l k p).2=some e->e.2≠0
 | 0,_,_,h=>by cases h
 |k+1,p,e,h=>by
  unfold fm at h;split at h
  ·rename_i hq
   cases hv:cK l (bM l p) with
   | inr e'=>rw [hv] at h;simp only [Option.some.injEq] at h;subst h;exact mj hq hv
   |inl r =>
    obtain ⟨kd,t,n,m⟩:=r;rw [hv] at h;exact mh h
  ·cases h
theorem po {l:List UInt8} {T:List al} {a:Int} (h:fD l=(T,a,0)):WT T/\TG T/\T≠[]:=by
 unfold fD at h;split at h
 ·injection h with _ h;injection h with _ h;cases h
 ·rename_i hl
  have hrun:(bP l 0).2=none/\T=(bP l 0).1∨∃ e,(bP l 0).2=some e/\e.2=0:=by
   cases he:(bP l 0).2 with
   | none=>rw [he] at h;injection h with h _;exact .inl ⟨rfl,h.symm⟩
   | some e=>rw [he] at h;injection h with _ h;injection h with _ h;exact .inr ⟨e,rfl,h⟩
  rcases hrun with ⟨h1,h2⟩ | ⟨e,h1,h2⟩
  ·obtain ⟨T',e,hw⟩:=tG (l.length+1-0) 0 (bP l 0).1 (by rw [← h1];rfl) (by omega);rw [h2,e];refine ⟨WT.of hw,⟨?_,λ p=>?_⟩,by simp⟩
   ·rw [← e];have:=ml l 0;omega
   ·rw [← e];unfold tkT tkN;cases hp:(bP l 0).1[p]? with
    | none=>exact ⟨by simp,by decide⟩
    |some t =>
     have:=tF (l:=l) (l.length+1-0) 0 t (List.mem_of_getElem? hp);exact ⟨by have:=this.1;simp only;omega,this.2⟩
  ·exact absurd h2 (mh h1)
end
section
open Go.RowKit
attribute [local go_sem] ab ae af ac
section
variable {w W W':World} {g:Nat} {row0 row row':Value} {st st':List UInt8 × Bool} {bs:Nat} {S:Array Value}
end
section
variable {w W:World} {g:Nat} {row0 row:Value} {st st':List UInt8 × Bool} {bs:Nat} {S:Array Value}
end
end
section
open Go.RowKit
theorem uW (l:List SJ) (css:List (List Value)) (A:Option Addr) (n ca:Nat) (w:World) (hS:SRs w TT css l) (hln:l.length=n) (hnc:n<=ca) (hR:RdF w TT A css.flatten) (hC:aZ l) (hn:n<=4194304) :
  Calls Tryz.prog 17 #[.agg #[Zs A n ca]] w (cP (ff l) w):=by
 have HC:=aW (λ (W:World) (h:Below w.heap.size w W)=>uX 12 l css A n ca 12 W rfl (Nat.le_refl _) (RR.imp hS λ c x (hc:SR _ _ c x)=>hc.bel h) hln hnc (hR.keep (aj.of_below h)) hC hn);have HH0:=aW ((aH.nil w).push 24 #[Zs A n ca] (g:=w.heap.size) rfl);obtain ⟨g,hg⟩:∃ g,bR 12 l=g:=⟨_,rfl⟩
 have hgp:ff l=g:=hg;rw [hg] at HC;rw [hgp];clear hS hln hnc hR hC hn hg hgp;obtain ⟨c0,f0,l0⟩:=HH0.out.b0.rules;go_enter Tryz.func17,Tryz.ntmps17;go_wp2_with fail;refine (HC.out _ HH0.out.1).mono ?_;rintro e w1 ⟨rfl,hb1⟩;have HH1:=aW (HH0.out.keep hb1);clear hb1 c0 f0 l0;go_wp2;go_ret;exact ⟨rfl,HH1.out.1⟩
end
end Go.Proofs.YtgmnmnnoahdjnaaGreatDoor
