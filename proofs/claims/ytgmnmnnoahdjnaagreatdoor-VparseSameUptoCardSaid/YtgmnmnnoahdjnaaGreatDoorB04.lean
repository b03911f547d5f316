import Derived.Test.YtgmnmnnoahdjnaaGreatDoorB03
import Derived.Deep.DeepCutAuto
set_option maxRecDepth 100000
set_option maxHeartbeats 16000000
set_option linter.unusedVariables false
set_option linter.unusedSimpArgs false
namespace Go.Proofs.YtgmnmnnoahdjnaaGreatDoor
open Go.RowKit
attribute [local go_sem] aa ac ae ab
theorem BS.lit (w:World) (l:List UInt8) (cs:Array Value) (h:cs=(al l).toArray) (n:Nat) (hn:n=l.length):BS (w.alloc (.cells cs 5)) (.slice (some ⟨w.heap.size,0,none⟩) n n) l:=by
 subst h hn;refine ⟨_,_,rfl,Nat.le_refl _,?_⟩;have:=Rd.of_blk (Blk.new w 5 (al l).toArray);simpa using this
theorem BS.at_ {w:World} {b o n cap:Nat} {l:List UInt8} (h:Rd w (some ⟨b,o,none⟩) (al l)) {k:Nat} {c:UInt8} (hc:l[k]? = some c):w.cell? ⟨b,o+k,none⟩=some (.int .u8 c.toNat):=by
 obtain ⟨hlt,e⟩:=List.getElem?_eq_some_iff.1 hc;obtain ⟨b',o',e2,_,hx⟩:=h (by intro e;have h3:=aB l;rw [e,List.length_nil] at h3;omega);obtain ⟨rfl,rfl⟩:b=b'∧o=o':=by simpa using e2
 rw [hx k (by rw [aB];exact hlt)];simp [al,e]
theorem Rd.some_ {w:World} {A:Option Addr} {l:List UInt8} (h:Rd w A (al l)) (hl:0<l.length):∃ b o,A=some ⟨b,o,none⟩∧b<w.heap.size:=by
 obtain ⟨b,o,e,hb,_⟩:=h (by intro e;have h3:=aB l;rw [e,List.length_nil] at h3;omega);exact ⟨b,o,e,hb⟩
end Go.Proofs.YtgmnmnnoahdjnaaGreatDoor
namespace Go.Proofs.YtgmnmnnoahdjnaaGreatDoor
open Go.RowKit
attribute [local go_sem] aa ac ae ab
end Go.Proofs.YtgmnmnnoahdjnaaGreatDoor
namespace Go.Proofs.YtgmnmnnoahdjnaaGreatDoor
section
open Go.RowKit
attribute [local go_sem] aa ac ae ab
abbrev ak:=Int × Nat × List UInt8 × Int
def kK (x:ak):List Value:=[.int .i64 x.1,.int .i64 x.2.1,.string ⟨x.2.2.1.toArray⟩,.int .i64 x.2.2.2]
def bu (ts:List ak):List Value:=ts.flatMap kK
theorem fK (x:ak) (ts:List ak):bu (x::ts)=kK x++bu ts:=rfl
theorem oB (a b:List ak):bu (a++b)=bu a++bu b:=by simp [bu]
theorem eM:∀ ts:List ak,(bu ts).length=ts.length*4
 | []=>rfl
 | x::ts=>by rw [fK,List.length_append,eM ts];simp [kK];omega
theorem jH:∀ {ts:List ak} {i:Nat} {x:ak} (_:ts[i]? = some x) {j:Nat} (_:j<4),(bu ts)[i*4+j]? = (kK x)[j]?
 | [],i,x,h,_,_=>by simp at h
 |y::ts,0,x,h,j,hj=>by
  have:y=x:=by simpa using h
  subst this;rw [fK,Nat.zero_mul,Nat.zero_add,List.getElem?_append_left (by simp [kK];omega)]
 |y::ts,i+1,x,h,j,hj=>by
  have h':ts[i]? = some x:=by simpa using h
  rw [fK,List.getElem?_append_right (by simp [kK];omega),← jH h' hj];congr 1;simp [kK];omega
def TS (w:World) (v:Value) (ts:List ak):Prop:=∃ A cap,v=.slice A ts.length cap∧ts.length≤cap∧Rd w A (bu ts)
theorem TS.below {w w':World} {v:Value} {ts:List ak} (h:TS w v ts) (hb:Below w.heap.size w w'):TS w' v ts:=by
 obtain ⟨A,cap,rfl,hc,hr⟩:=h;exact ⟨A,cap,rfl,hc,hr.below hb⟩
theorem TS.drewN {w:World} {v:Value} {ts:List ak} (h:TS w v ts) (n:Nat):TS (w.drewN n) v ts:=h
theorem TS.alloc {w:World} {v:Value} {ts:List ak} (h:TS w v ts) (o:Obj):TS (w.alloc o) v ts:=h.below ((Below.refl _ w).alloc (Nat.le_refl _) o)
theorem TS.nil {w:World}:TS w (.slice none 0 0) []:=⟨none,0,rfl,Nat.le_refl _,Rd.nil⟩
theorem Rd.tok {w:World} {A:Option Addr} {ts:List ak} (h:Rd w A (bu ts)) {i:Nat} {x:ak} (hx:ts[i]? = some x) :
  ∃ b o,A=some ⟨b,o,none⟩∧b<w.heap.size∧w.cell? ⟨b,o+i*4,none⟩=some (.int .i64 x.1)∧w.cell? ⟨b,o+i*4+1,none⟩=some (.int .i64 x.2.1) ∧
   w.cell? ⟨b,o+i*4+2,none⟩=some (.string ⟨x.2.2.1.toArray⟩)∧w.cell? ⟨b,o+i*4+3,none⟩=some (.int .i64 x.2.2.2):=by
 have hi:i<ts.length:=(List.getElem?_eq_some_iff.1 hx).1;obtain ⟨b,o,rfl,hb,hc⟩:=h (by intro e;have h3:=eM ts;rw [e,List.length_nil] at h3;omega);have key:∀ j v,j<4→(kK x)[j]? = some v→w.cell? ⟨b,o+i*4+j,none⟩=some v:=fun j v hj hv=>by
  have h1:=jH hx hj;rw [hv] at h1;obtain ⟨hlt,e⟩:=List.getElem?_eq_some_iff.1 h1;rw [Nat.add_assoc,hc _ hlt,e]
 exact ⟨b,o,rfl,hb,key 0 _ (by omega) rfl,key 1 _ (by omega) rfl,key 2 _ (by omega) rfl,key 3 _ (by omega) rfl⟩
theorem eV {a b:List UInt8}:((⟨a.toArray⟩:ByteArray).toList == (⟨b.toArray⟩:ByteArray).toList)=decide (a=b):=by
 rw [ByteArray.toList_eq,ByteArray.toList_eq,Bool.eq_iff_iff];simp
end
end Go.Proofs.YtgmnmnnoahdjnaaGreatDoor
namespace Go.Proofs.YtgmnmnnoahdjnaaGreatDoor
open Go.RowKit
attribute [local go_sem] aa ac ae ab
end Go.Proofs.YtgmnmnnoahdjnaaGreatDoor
namespace Go.Proofs.YtgmnmnnoahdjnaaGreatDoor
open Go.RowKit
attribute [local go_sem] aa ac ae ab
end Go.Proofs.YtgmnmnnoahdjnaaGreatDoor
namespace Go.Proofs.YtgmnmnnoahdjnaaGreatDoor
open Go.RowKit
attribute [local go_sem] aa ac ae ab
end Go.Proofs.YtgmnmnnoahdjnaaGreatDoor
namespace Go.Proofs.YtgmnmnnoahdjnaaGreatDoor
section
theorem Blk.set8C {w:World} {g:Nat} {t:TypeId} {c0 c1 c2 c3 c4 c5 c6 c7:Value} (h:Blk w g t #[c0,c1,c2,c3,c4,c5,c6,c7]) (x0 x1 x2 x3 x4 x5 x6 x7:Value):Blk (w.setCells g 0 [x0,x1,x2,x3,x4,x5,x6,x7]) g t #[x0,x1,x2,x3,x4,x5,x6,x7] :=
 (((((((h.set_ 0 x0).set_ 1 x1).set_ 2 x2).set_ 3 x3).set_ 4 x4).set_ 5 x5).set_ 6 x6).set_ 7 x7
end
section
open Go.RowKit
attribute [local go_sem] aa ac ae ab
theorem vI:(Tryz.prog.info? 86).map (fun i=>(i.zero,i.size,i.bytes))=some (some (.agg #[.int .i64 0,.int .i64 0,.string ⟨#[]⟩,.int .i64 0]),4,40):=by kernel_rfl
theorem oC (ts:List ak):∀ v ∈ bu ts,v.oneCell'=true:=by
 intro v hv;simp only [bu,List.mem_flatMap] at hv;obtain ⟨x,_,hx⟩:=hv;simp only [kK,List.mem_cons,List.not_mem_nil,or_false] at hx;rcases hx with rfl | rfl | rfl | rfl<;>rfl
theorem TS.of_own {w:World} {base:Nat} {e:TypeId} {v:Value} {n:Nat} {ts:List ak} (h:w.ownsRow base e 4 v n (bu ts)):TS w v ts:=by
 obtain ⟨A,cap,rfl,hc,hr⟩:=Rd.of_own h;have h1:=h.1;rw [eM] at h1;obtain rfl:n=ts.length:=by omega
 exact ⟨A,cap,rfl,hc,hr⟩
end
end Go.Proofs.YtgmnmnnoahdjnaaGreatDoor
