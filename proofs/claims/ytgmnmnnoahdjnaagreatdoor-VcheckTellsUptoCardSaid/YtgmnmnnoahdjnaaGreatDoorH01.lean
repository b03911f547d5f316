import Derived.Deep.RegionHeld3
import Derived.Lib.Hide
open Go.Value renaming int → Zi, slice → Zs, string → Zt, pointer → Zp
open Go.IntKind renaming i64 → Zq
set_option maxRecDepth 100000
set_option maxHeartbeats 16000000
set_option linter.unusedVariables false
set_option linter.unusedSimpArgs false
namespace Go.Proofs.YtgmnmnnoahdjnaaGreatDoor
section
open Go.RowKit
theorem aW {p:Prop} (h:p):Hid p:=Lib.hid h
theorem pU:(∀ (a:Act) (v:Value) (d:Tmp),a.put (some d) v={ a with tmps:=a.tmps.setIfInBounds d v })/\(∀ (a:Act) (v:Value),a.put none v=a) /\
  (∀ (l:List Value) (i:Nat) (a:Value),l.toArray.setIfInBounds i a=(l.set i a).toArray)/\(∀ (x a:Value) (l:List Value),(x::l).set 0 a=a::l)/\(∀ (x a:Value) (l:List Value) (n:Nat),(x::l).set (n+1) a=x::l.set n a) /\
  (∀ (l:List Bool) (i:Nat) (a:Bool),l.toArray.setIfInBounds i a=(l.set i a).toArray)/\(∀ (x a:Bool) (l:List Bool),(x::l).set 0 a=a::l)/\(∀ (x a:Bool) (l:List Bool) (n:Nat),(x::l).set (n+1) a=x::l.set n a) :=
 ⟨λ _ _ _=>rfl,λ _ _=>rfl,λ _ _ _=>List.setIfInBounds_toArray ..,λ _ _ _=>List.set_cons_zero ..,λ _ _ _ _=>List.set_cons_succ ..,λ _ _ _=>List.setIfInBounds_toArray ..,λ _ _ _=>List.set_cons_zero ..,λ _ _ _ _=>List.set_cons_succ ..⟩
section
variable {P:Program} {ops:Array Oper} {Q:Exit->Act->World->Prop} {md:Region.Mode} {S:World->Prop} {fuel:Nat} {listed l2:Array Bool} {a a2:Act} {w:World}
 {x1:Op} {x2:TypeId} {x3:String} {x4:Array Edge} {x5:Option (Nat × Bool)}
theorem aY (i n:Nat) (v:Value) (hi:ops[i]? = some ⟨some n,x1,x2,x3,x4,x5⟩) (hy:∀ w,S w->(execOp a.eval ⟨some n,x1,x2,x3,x4,x5⟩).run P w=.ok (.value v) w)
  (h:wpAnyH P md ops Q S fuel l2 a2 w) (hs:Region.noSelect ops=true:=by kernel_rfl) (hf:Region.free md ops listed i=true:=by kernel_rfl)
  (hr:(Region.ready md ops listed).contains i=true:=by kernel_rfl) (hQ:∀ c a w,Q (.panic c) (a.put (some n) v) w->Q (.panic c) a w:=by exact λ _ _ _ h=>h)
  (hw:Region.wanted ⟨some n,x1,x2,x3,x4,x5⟩ (yielded ops a.tmps)=true:=by kernel_rfl) (hS:S w:=by assumption) (ha:a.put (some n) v=a2:=by simp only [pU]<;>rfl) (hl:listed.setIfInBounds i true=l2:=by first | (simp only [pU]<;>rfl) | rfl):wpAnyH P md ops Q S (fuel+1) listed a w :=
 wpAnyH_take hi hs hf hr hQ (Or.inl ⟨hw,hy⟩) hS (by rw [ha,hl];exact h)
theorem tN (i n:Nat) (v:Value) (hi:ops[i]? = some ⟨some n,x1,x2,x3,x4,x5⟩)
  (h:wpAnyH P md ops Q S fuel l2 a2 w) (hs:Region.noSelect ops=true:=by kernel_rfl) (hf:Region.free md ops listed i=true:=by kernel_rfl)
  (hr:(Region.ready md ops listed).contains i=true:=by kernel_rfl) (hQ:∀ c a w,Q (.panic c) (a.put (some n) v) w->Q (.panic c) a w:=by exact λ _ _ _ h=>h)
  (hw:Region.wanted ⟨some n,x1,x2,x3,x4,x5⟩ (yielded ops a.tmps)=false:=by kernel_rfl) (hv:v=undef:=by rfl) (hS:S w:=by assumption) (ha:a.put (some n) v=a2:=by simp only [pU]<;>rfl) (hl:listed.setIfInBounds i true=l2:=by first | (simp only [pU]<;>rfl) | rfl):wpAnyH P md ops Q S (fuel+1) listed a w :=
 wpAnyH_take hi hs hf hr hQ (Or.inr ⟨hw,hv⟩) hS (by rw [ha,hl];exact h)
theorem tA (i n:Nat) (v:Value) (hi:ops[i]? = some ⟨some n,x1,x2,x3,x4,x5⟩)
  (h:wpAnyH P md ops Q S fuel l2 a2 w) (hs:Region.noSelect ops=true:=by kernel_rfl) (hf:Region.free md ops listed i=true:=by kernel_rfl)
  (hr:(Region.ready md ops listed).contains i=true:=by kernel_rfl) (hQ:∀ c a w,Q (.panic c) (a.put (some n) v) w->Q (.panic c) a w:=by exact λ _ _ _ h=>h)
  (hw:Region.wanted ⟨some n,x1,x2,x3,x4,x5⟩ (yielded ops a.tmps)=true:=by kernel_rfl) (hS:S w:=by assumption)
  (hy:∀ w,S w->(execOp a.eval ⟨some n,x1,x2,x3,x4,x5⟩).run P w=.ok (.value v) w:=by intro w hSw;(try dsimp only at hSw);go_simp) (ha:a.put (some n) v=a2:=by simp only [pU]<;>rfl) (hl:listed.setIfInBounds i true=l2:=by first | (simp only [pU]<;>rfl) | rfl):wpAnyH P md ops Q S (fuel+1) listed a w :=
 aY i n v hi hy h hs hf hr hQ hw hS ha hl
theorem tZ (i n:Nat) (v:Value) (hi:ops[i]? = some ⟨some n,x1,x2,x3,x4,x5⟩)
  (h:wpAnyH P md ops Q S fuel l2 a2 w) (hs:Region.noSelect ops=true:=by kernel_rfl) (hf:Region.free md ops listed i=true:=by kernel_rfl)
  (hr:(Region.ready md ops listed).contains i=true:=by kernel_rfl) (hQ:∀ c a w,Q (.panic c) (a.put (some n) v) w->Q (.panic c) a w:=by exact λ _ _ _ h=>h)
  (hw:Region.wanted ⟨some n,x1,x2,x3,x4,x5⟩ (yielded ops a.tmps)=true:=by kernel_rfl) (hS:S w:=by assumption)
  (hy:∀ w,S w->(execOp a.eval ⟨some n,x1,x2,x3,x4,x5⟩).run P w=.ok (.value v) w:=by intro W hSw;obtain ⟨⟨c1,f1,l1⟩,⟨c2,f2,l2⟩⟩:=And.intro hSw.1.rules hSw.2.1.rules;obtain ⟨p0,p1,p2,p3,p4⟩:=HZ.out W hSw.2.2;obtain ⟨q0,q1,q2,q3,q4⟩:=HZ'.out W hSw.2.2;go_simp) (ha:a.put (some n) v=a2:=by simp only [pU]<;>rfl) (hl:listed.setIfInBounds i true=l2:=by first | (simp only [pU]<;>rfl) | rfl):wpAnyH P md ops Q S (fuel+1) listed a w :=
 aY i n v hi hy h hs hf hr hQ hw hS ha hl
theorem aV (i n:Nat) (hi:ops[i]? = some ⟨some n,x1,x2,x3,x4,x5⟩)
  (h:∀ K':Act->World->Prop,Shut (∀ a w,S w->(S w->wpAnyH P md ops Q S fuel (listed.setIfInBounds i true) a w)->K' a w)->if Region.wanted ⟨some n,x1,x2,x3,x4,x5⟩ (yielded ops a.tmps)=true then Oper.wp P ⟨some n,x1,x2,x3,x4,x5⟩ a w K' Q else K' (a.put (some n) undef) w)
  (hr:Region.ready md ops listed=[i]:=by kernel_rfl):wpAnyH P md ops Q S (fuel+1) listed a w :=
 wpAnyH_ready hr (by simp) (AllReadyH.cons hi h AllReadyH.nil)
theorem aU (i:Nat) (hi:ops[i]? = some ⟨none,x1,x2,x3,x4,x5⟩)
  (h:∀ K':Act->World->Prop,Shut (∀ a w,S w->(S w->wpAnyH P md ops Q S fuel (listed.setIfInBounds i true) a w)->K' a w)->if Region.wanted ⟨none,x1,x2,x3,x4,x5⟩ (yielded ops a.tmps)=true then Oper.wp P ⟨none,x1,x2,x3,x4,x5⟩ a w K' Q else K' (a.put none undef) w)
  (hr:Region.ready md ops listed=[i]:=by kernel_rfl):wpAnyH P md ops Q S (fuel+1) listed a w :=
 wpAnyH_ready hr (by simp) (AllReadyH.cons hi h AllReadyH.nil)
theorem aX (h:Q .normal a w) (hr:Region.ready md ops listed=[]:=by kernel_rfl):wpAnyH P md ops Q S fuel listed a w:=wpAnyH_done hr h _
variable {rest:List Oper} {op:Oper}
theorem bS (hgd:op.guard=none) (ty:TypeId) (x y:Nat) (ho:op.op=.store ty (.tmp x) (.tmp y))
  (b o:Nat) (cells:Array Value) (hx:a.eval (.tmp x)=Zp (some ⟨b,o,none⟩)) (hy:a.eval (.tmp y)=.agg cells) (ht:w.there b o cells.size)
  (h:wpList P ops Q rest (a.put op.dst undef) (w.setCells b o cells.toList)) (hi:(P.info? ty).map (·.size)=some cells.size:=by kernel_rfl) (h1:cells.all (·.oneCell')=true:=by first | kernel_rfl | simp [Value.oneCell']):wpList P ops Q (op::rest) a w :=
 wpList_store_mid hgd ty (.tmp x) (.tmp y) ho b o cells hx hy ht hi h1 h
end
end
section
def br (p:Nat):Nat :=
 if 1114111<p∨(55296<=p/\p<=57343) then 0 else if p<128 then 1 else if p<2048 then 2 else if p<65536 then 3 else 4
def aL (p:Int):Int:=if p<0 then 0 else br p.toNat
def nR (cp:Int):Bool:=decide (0<=cp/\cp<=1114111/\¬ (55296<=cp/\cp<=57343))
def ai (cp:Nat):List UInt8 :=
 if cp<128 then [UInt8.ofNat cp]
 else if cp<2048 then [UInt8.ofNat (192+cp / 64),UInt8.ofNat (128+cp % 64)]
 else if cp<65536 then [UInt8.ofNat (224+cp / 4096),UInt8.ofNat (128+cp / 64 % 64),UInt8.ofNat (128+cp % 64)]
 else [UInt8.ofNat (240+cp / 262144),UInt8.ofNat (128+cp / 4096 % 64),UInt8.ofNat (128+cp / 64 % 64),UInt8.ofNat (128+cp % 64)]
def bw (l:List UInt8) (n:Nat):Nat :=
 ((l.drop 1).take (n-1)).foldl (λ cp c=>cp*64+c.toNat % 64) ((l.headD 0).toNat % (match n with | 1=>256 | 2=>32 | 3=>16 | _=>8))
def bQ (l:List UInt8) (n:Nat):Bool:=decide (n<=l.length) && (nR (bw l n) && ai (bw l n) == l.take n)
def au (l:List UInt8):Nat × Nat :=
 if bQ l 1 then (bw l 1,1) else if bQ l 2 then (bw l 2,2) else if bQ l 3 then (bw l 3,3) else if bQ l 4 then (bw l 4,4) else (0,0)
def aE (c:Nat):Nat × Nat × Nat :=
 if c / 128=0 then (7,0,1) else if c / 32=6 then (5,192,2) else if c / 16=14 then (4,224,3) else if c / 8=30 then (3,240,4) else (0,0,0)
def bh (l:List UInt8):Nat × Nat :=
 if (aE (l.headD 0).toNat).1=0∨l.length<(aE (l.headD 0).toNat).2.2 then (0,0)
 else if ((l.drop 1).take ((aE (l.headD 0).toNat).2.2-1)).any (λ c=>c.toNat / 64 != 2) then (0,0)
 else if br (((l.drop 1).take ((aE (l.headD 0).toNat).2.2-1)).foldl (λ p c=>p*64+c.toNat % 64) ((l.headD 0).toNat % 2 ^ (aE (l.headD 0).toNat).1))≠(aE (l.headD 0).toNat).2.2 then (0,0)
 else (((l.drop 1).take ((aE (l.headD 0).toNat).2.2-1)).foldl (λ p c=>p*64+c.toNat % 64) ((l.headD 0).toNat % 2 ^ (aE (l.headD 0).toNat).1),(aE (l.headD 0).toNat).2.2)
theorem kG {n:Nat} {c:UInt8}:(UInt8.ofNat n=c) ↔ n % 256=c.toNat:=by
 rw [← UInt8.toNat_inj];simp
theorem sR (n:Nat):nR (n:Int)=true ↔ (n<=1114111/\¬ (55296<=n/\n<=57343)):=by
 simp only [nR,decide_eq_true_eq];omega
theorem em (l:List UInt8) (n:Nat):bQ l n=true ↔ n<=l.length/\(bw l n<=1114111/\¬ (55296<=bw l n/\bw l n<=57343))/\ai (bw l n)=l.take n:=by
 simp only [bQ,Bool.and_eq_true,sR,beq_iff_eq,decide_eq_true_eq]
theorem ok1 (c0:UInt8) (r:List UInt8):bQ (c0::r) 1=true ↔ c0.toNat<128:=by
 have b0:=c0.toNat_lt;have e:bw (c0::r) 1=c0.toNat:=by simp [bw]
 rw [em,e];unfold ai;by_cases h:c0.toNat<128
 ·simp [h];omega
 ·rw [if_neg h,if_pos (by omega)];simp [h]
theorem ok2 (c0 c1:UInt8) (r:List UInt8):bQ (c0::c1::r) 2=true ↔ (194<=c0.toNat/\c0.toNat<224/\c1.toNat / 64=2):=by
 have b0:=c0.toNat_lt;have b1:=c1.toNat_lt;have e:bw (c0::c1::r) 2=c0.toNat % 32*64+c1.toNat % 64:=by simp [bw]
 rw [em,e];unfold ai;by_cases h:c0.toNat % 32*64+c1.toNat % 64<128
 ·rw [if_pos h];simp;omega
 ·rw [if_neg h,if_pos (by omega)];show _/\_/\[_,_]=[_,_] ↔ _;simp only [List.cons.injEq,and_true,kG,List.length_cons];omega
theorem ok3 (c0 c1 c2:UInt8) (r:List UInt8):bQ (c0::c1::c2::r) 3=true ↔ (c0.toNat / 16=14/\c1.toNat / 64=2/\c2.toNat / 64=2 /\
  2048<=(c0.toNat % 16*64+c1.toNat % 64)*64+c2.toNat % 64/\¬ (55296<=(c0.toNat % 16*64+c1.toNat % 64)*64+c2.toNat % 64/\(c0.toNat % 16*64+c1.toNat % 64)*64+c2.toNat % 64<=57343)):=by
 have b0:=c0.toNat_lt;have b1:=c1.toNat_lt;have b2:=c2.toNat_lt;have e:bw (c0::c1::c2::r) 3=(c0.toNat % 16*64+c1.toNat % 64)*64+c2.toNat % 64:=by simp [bw]
 rw [em,e];generalize hp:(c0.toNat % 16*64+c1.toNat % 64)*64+c2.toNat % 64=p;unfold ai;by_cases h:p<128
 ·rw [if_pos h];simp;omega
 ·rw [if_neg h];by_cases h:p<2048
  ·rw [if_pos h];simp;omega
  ·rw [if_neg h,if_pos (by omega)];show _/\_/\[_,_,_]=[_,_,_] ↔ _;simp only [List.cons.injEq,and_true,kG,List.length_cons];omega
theorem ok4 (c0 c1 c2 c3:UInt8) (r:List UInt8):bQ (c0::c1::c2::c3::r) 4=true ↔ (c0.toNat / 8=30/\c1.toNat / 64=2/\c2.toNat / 64=2/\c3.toNat / 64=2 /\
  65536<=((c0.toNat % 8*64+c1.toNat % 64)*64+c2.toNat % 64)*64+c3.toNat % 64/\((c0.toNat % 8*64+c1.toNat % 64)*64+c2.toNat % 64)*64+c3.toNat % 64<=1114111):=by
 have b0:=c0.toNat_lt;have b1:=c1.toNat_lt;have b2:=c2.toNat_lt;have b3:=c3.toNat_lt;have e:bw (c0::c1::c2::c3::r) 4=((c0.toNat % 8*64+c1.toNat % 64)*64+c2.toNat % 64)*64+c3.toNat % 64:=by simp [bw]
 rw [em,e];generalize hp:((c0.toNat % 8*64+c1.toNat % 64)*64+c2.toNat % 64)*64+c3.toNat % 64=p;unfold ai;by_cases h:p<128
 ·rw [if_pos h];simp;omega
 ·rw [if_neg h];by_cases h:p<2048
  ·rw [if_pos h];simp;omega
  ·rw [if_neg h];by_cases h:p<65536
   ·rw [if_pos h];simp;omega
   ·rw [if_neg h];show _/\_/\[_,_,_,_]=[_,_,_,_] ↔ _;simp only [List.cons.injEq,and_true,kG,List.length_cons];omega
theorem cO (l:List UInt8) (n:Nat) (h:l.length<n):bQ l n=false:=by
 simp only [bQ,Bool.and_eq_false_iff,decide_eq_false_iff_not];omega
theorem mp {l:List UInt8} (h:bQ l 1=true):au l=(bw l 1,1):=by simp [au,h]
theorem p6 {l:List UInt8} (h1:bQ l 1=false) (h:bQ l 2=true):au l=(bw l 2,2):=by simp [au,h1,h]
theorem p7 {l:List UInt8} (h1:bQ l 1=false) (h2:bQ l 2=false) (h:bQ l 3=true):au l=(bw l 3,3):=by simp [au,h1,h2,h]
theorem p8 {l:List UInt8} (h1:bQ l 1=false) (h2:bQ l 2=false) (h3:bQ l 3=false) (h:bQ l 4=true):au l=(bw l 4,4):=by simp [au,h1,h2,h3,h]
theorem dk {l:List UInt8} (h1:bQ l 1=false) (h2:bQ l 2=false) (h3:bQ l 3=false) (h4:bQ l 4=false):au l=(0,0):=by simp [au,h1,h2,h3,h4]
theorem no2 (c0:UInt8) (r:List UInt8) (h:¬ c0.toNat / 32=6):bQ (c0::r) 2=false:=by
 rw [Bool.eq_false_iff];intro hh;rcases r with _ | ⟨c1,r⟩
 ·simp [cO] at hh
 ·rw [ok2] at hh;omega
theorem no3 (c0:UInt8) (r:List UInt8) (h:¬ c0.toNat / 16=14):bQ (c0::r) 3=false:=by
 rw [Bool.eq_false_iff];intro hh;rcases r with _ | ⟨c1,_ | ⟨c2,r⟩⟩
 ·simp [cO] at hh
 ·simp [cO] at hh
 ·rw [ok3] at hh;omega
theorem no4 (c0:UInt8) (r:List UInt8) (h:¬ c0.toNat / 8=30):bQ (c0::r) 4=false:=by
 rw [Bool.eq_false_iff];intro hh;rcases r with _ | ⟨c1,_ | ⟨c2,_ | ⟨c3,r⟩⟩⟩
 ·simp [cO] at hh
 ·simp [cO] at hh
 ·simp [cO] at hh
 ·rw [ok4] at hh;omega
theorem bC (p n:Nat):br p=n ↔ ((n=0/\(1114111<p∨55296<=p/\p<=57343))∨(n=1/\p<128)∨(n=2/\128<=p/\p<2048)∨(n=3/\2048<=p/\p<65536/\¬ (55296<=p/\p<=57343))∨(n=4/\65536<=p/\p<=1114111)):=by
 unfold br
 repeat' split
 all_goals omega
theorem qT (p:Int):aL p=if p<0∨1114111<p∨(55296<=p/\p<=57343) then 0 else if p<128 then 1 else if p<2048 then 2 else if p<65536 then 3 else 4:=by
 unfold aL;by_cases h:p<0
 ·rw [if_pos h,if_pos (.inl h)]
 ·rw [if_neg h];obtain ⟨n,rfl⟩:=Int.eq_ofNat_of_zero_le (Int.not_lt.1 h);rw [Int.toNat_natCast];have:=(bC n (br n)).1 rfl;generalize br n=k at this
  repeat' split
  all_goals omega
theorem a9 (p n:Nat):aL (p:Int)=(n:Int) ↔ br p=n:=by
 unfold aL;rw [if_neg (by omega),Int.toNat_natCast];omega
theorem n9 (l:List UInt8) (h:l≠[]):bh l=au l:=by
 obtain ⟨c0,r,rfl⟩:=List.exists_cons_of_ne_nil h;have b0:=c0.toNat_lt;by_cases h1:c0.toNat / 128=0
 ·have hs:aE c0.toNat=(7,0,1):=by simp [aE,h1]
  rw [mp ((ok1 _ _).2 (by omega))];have n1:bw (c0::r) 1=c0.toNat:=by simp [bw]
  have e:c0.toNat % 2 ^ 7=c0.toNat:=by omega
  simp [bh,hs,n1,e,bC];omega
 ·have f1:bQ (c0::r) 1=false:=by rw [Bool.eq_false_iff];intro hh;rw [ok1] at hh;omega
  by_cases h2:c0.toNat / 32=6
  ·have hs:aE c0.toNat=(5,192,2):=by simp [aE,h1,h2]
   have f3:=no3 c0 r (by omega);have f4:=no4 c0 r (by omega);rcases r with _ | ⟨c1,r⟩
   ·rw [dk f1 (cO _ _ (by simp)) f3 f4];simp [bh,hs]
   ·have b1:=c1.toNat_lt;have n2:bw (c0::c1::r) 2=c0.toNat % 32*64+c1.toNat % 64:=by simp [bw]
    by_cases hA:bQ (c0::c1::r) 2=true
    ·rw [p6 f1 hA,n2];rw [ok2] at hA;simp [bh,hs,hA,bC];rw [if_neg (by omega),if_neg (by omega)]
    ·rw [dk f1 (by simpa using hA) f3 f4];rw [ok2] at hA;simp [bh,hs,bC];omega
  ·have f2:=no2 c0 r h2;by_cases h3:c0.toNat / 16=14
   ·have hs:aE c0.toNat=(4,224,3):=by simp [aE,h1,h2,h3]
    have f4:=no4 c0 r (by omega);rcases r with _ | ⟨c1,_ | ⟨c2,r⟩⟩
    ·rw [dk f1 f2 (cO _ _ (by simp)) f4];simp [bh,hs]
    ·rw [dk f1 f2 (cO _ _ (by simp)) f4];simp [bh,hs]
    ·have b1:=c1.toNat_lt;have b2:=c2.toNat_lt;have n3:bw (c0::c1::c2::r) 3=(c0.toNat % 16*64+c1.toNat % 64)*64+c2.toNat % 64:=by simp [bw]
     by_cases hA:bQ (c0::c1::c2::r) 3=true
     ·rw [p7 f1 f2 hA,n3];rw [ok3] at hA;simp [bh,hs,hA,bC];rw [if_neg (by omega),if_neg (by omega)]
     ·rw [dk f1 f2 (by simpa using hA) f4];rw [ok3] at hA;simp [bh,hs,bC];omega
   ·have f3:=no3 c0 r h3;by_cases h4:c0.toNat / 8=30
    ·have hs:aE c0.toNat=(3,240,4):=by simp [aE,h1,h2,h3,h4]
     rcases r with _ | ⟨c1,_ | ⟨c2,_ | ⟨c3,r⟩⟩⟩
     ·rw [dk f1 f2 f3 (cO _ _ (by simp))];simp [bh,hs]
     ·rw [dk f1 f2 f3 (cO _ _ (by simp))];simp [bh,hs]
     ·rw [dk f1 f2 f3 (cO _ _ (by simp))];simp [bh,hs]
     ·have b1:=c1.toNat_lt;have b2:=c2.toNat_lt;have b3:=c3.toNat_lt;have n4:bw (c0::c1::c2::c3::r) 4=((c0.toNat % 8*64+c1.toNat % 64)*64+c2.toNat % 64)*64+c3.toNat % 64:=by simp [bw]
      by_cases hA:bQ (c0::c1::c2::c3::r) 4=true
      ·rw [p8 f1 f2 f3 hA,n4];rw [ok4] at hA;simp [bh,hs,hA,bC]
      ·rw [dk f1 f2 f3 (by simpa using hA)];rw [ok4] at hA;simp [bh,hs,bC];omega
    ·have f4:=no4 c0 r h4;have hs:aE c0.toNat=(0,0,0):=by simp [aE,h1,h2,h3,h4]
     rw [dk f1 f2 f3 f4];simp [bh,hs]
theorem fL (p:Nat):(ai p).length<=4:=by
 unfold ai;repeat' split
 all_goals simp
theorem j4 (l:List UInt8):(au l).2<=4:=by
 unfold au;repeat' split
 all_goals simp
theorem ju (l:List UInt8):(au l).2<=l.length:=by
 unfold au
 repeat' split
 all_goals first
  | (rename_i h;have:=((em _ _).1 h).1;simpa using this)
  | simp
def jL (c:UInt8):Option Nat :=
 if 48<=c.toNat/\c.toNat<=57 then some (c.toNat-48) else if 97<=c.toNat/\c.toNat<=102 then some (c.toNat-97+10)
 else if 65<=c.toNat/\c.toNat<=70 then some (c.toNat-65+10) else none
def iC:List UInt8->Nat->Option Nat
 | [],n=>some n
 | c::r,n=>match jL c with | some h=>iC r (n*16+h) | none=>none
def dY (l:List UInt8) (a:Nat):Option Nat :=
 if l.length<a+6∨l[a]? ≠ some 92∨l[a+1]? ≠ some 117 then none else iC ((l.drop (a+2)).take 4) 0
def xK:Option Nat->Int | some n=>n | none => -1
def d9 (l:List UInt8) (a:Nat):Int:=xK (dY l a)
def aQ (c:Nat):Option Nat :=
 if c=34 then some 34 else if c=92 then some 92 else if c=47 then some 47 else if c=98 then some 8
 else if c=102 then some 12 else if c=110 then some 10 else if c=114 then some 13 else if c=116 then some 9 else none
def ll (l:List UInt8) (a:Nat):Int × Int × Int :=
 match dY l a with
 |some u =>
  if 0<aL u then (u,a+6,0) else if u<56320 then
   match dY l (a+6) with
   | some v=>if 56320<=v/\v<=57343 then (65536+(u-55296)*1024+v-56320,a+12,0) else (0,0,7)
   | none=>(0,0,7)
  else (0,0,7)
 |none =>
  match l[a+1]? with
  | some c=>match aQ c.toNat with | some x=>(x,a+2,0) | none=>(0,0,7)
  | none=>(0,0,7)
theorem uE {c:UInt8} {h:Nat} (e:jL c=some h):h<16:=by
 unfold jL at e
 repeat' split at e
 all_goals first | (cases e;omega) | cases e
theorem qj:∀ {r:List UInt8} {n m:Nat},iC r n=some m->m<(n+1)*16 ^ r.length
 | [],n,m,h=>by simp only [iC,Option.some.injEq] at h;simp;omega
 |c::r,n,m,h=>by
  unfold iC at h;cases e:jL c with
  | none=>rw [e] at h;cases h
  |some d =>
   rw [e] at h;have h1:=qj h;have h2:=uE e;have h3:(n*16+d+1)*16 ^ r.length<=(n+1)*16*16 ^ r.length:=Nat.mul_le_mul_right _ (by omega);rw [List.length_cons,Nat.pow_succ,Nat.mul_comm (16 ^ _),← Nat.mul_assoc];omega
theorem iS {l:List UInt8} {a u:Nat} (h:dY l a=some u):u<65536/\a+6<=l.length:=by
 unfold dY at h;split at h
 ·cases h
 ·rename_i hc
  have h1:=qj h;have h2:((l.drop (a+2)).take 4).length<=4:=by simp;omega
  have h3:16 ^ ((l.drop (a+2)).take 4).length<=16 ^ 4:=Nat.pow_le_pow_right (by omega) h2;constructor
  ·omega
  ·omega
def bX (l:List UInt8) (p:Nat) (s:List UInt8):Bool:=match l[p]? with | some c=>s.contains c | none=>false
def cD (c:UInt8):Bool:=decide (48<=c.toNat/\c.toNat<=57)
def dZ (l:List UInt8) (p:Nat):List UInt8:=(l.drop p).takeWhile cD
def jK (c:UInt8):Nat:=c.toNat-48
theorem nz {l:List UInt8} {p:Nat} (h:bX l p [48,49,50,51,52,53,54,55,56,57]=false):dZ l p=[]:=by
 unfold dZ bX at *;cases hl:l[p]? with
 |none =>
  have:=List.getElem?_eq_none_iff.1 hl;rw [List.drop_eq_nil_of_le this];rfl
 |some c =>
  rw [hl] at h;have hd:l.drop p=c::l.drop (p+1):=by
   obtain ⟨hlt,e⟩:=List.getElem?_eq_some_iff.1 hl;rw [List.drop_eq_getElem_cons hlt,e]
  rw [hd,List.takeWhile_cons];have:cD c=false:=by
   simp only [cD,decide_eq_false_iff_not];simp only [List.contains_eq_mem,List.mem_cons,List.not_mem_nil,decide_eq_false_iff_not] at h;intro hc;apply h;simp only [← UInt8.toNat_inj];have h2:c.toNat=48∨c.toNat=49∨c.toNat=50∨c.toNat=51∨c.toNat=52∨c.toNat=53∨c.toNat=54∨c.toNat=55∨c.toNat=56∨c.toNat=57:=by omega
   simpa using h2
  rw [this];rfl
theorem lF {l:List UInt8} {p:Nat} (h:bX l p [48,49,50,51,52,53,54,55,56,57]=true):∃ c,l[p]? = some c/\48<=c.toNat/\c.toNat<=57/\dZ l p=c::dZ l (p+1):=by
 unfold dZ bX at *;cases hl:l[p]? with
 | none=>rw [hl] at h;simp at h
 |some c =>
  rw [hl] at h;have hd:l.drop p=c::l.drop (p+1):=by
   obtain ⟨hlt,e⟩:=List.getElem?_eq_some_iff.1 hl;rw [List.drop_eq_getElem_cons hlt,e]
  have hc:48<=c.toNat/\c.toNat<=57:=by
   simp only [List.contains_eq_mem,List.mem_cons,List.not_mem_nil,decide_eq_true_eq,or_false] at h;simp only [← UInt8.toNat_inj] at h;simp at h;omega
  refine ⟨c,rfl,hc.1,hc.2,?_⟩;rw [hd,List.takeWhile_cons];have:cD c=true:=by simp only [cD,decide_eq_true_eq];exact hc
  rw [this];rfl
theorem mv (l:List UInt8) (p:Nat):(dZ l p).length<=l.length-p:=by
 unfold dZ;have:=(List.takeWhile_sublist cD (l:=l.drop p)).length_le;simpa using this
def ep (c:UInt8):Bool:=decide (c.toNat=9∨c.toNat=10∨c.toNat=13∨c.toNat=32)
def bM (l:List UInt8) (p:Nat):Nat:=p+((l.drop p).takeWhile ep).length
theorem pJ {l:List UInt8} {p:Nat} {c:UInt8} (h:l[p]? = some c) (hb:ep c=true):bM l p=bM l (p+1):=by
 obtain ⟨hlt,e⟩:=List.getElem?_eq_some_iff.1 h;unfold bM;rw [List.drop_eq_getElem_cons hlt,e,List.takeWhile_cons,hb];simp;omega
theorem pK {l:List UInt8} {p:Nat} {c:UInt8} (h:l[p]? = some c) (hb:ep c=false):bM l p=p:=by
 obtain ⟨hlt,e⟩:=List.getElem?_eq_some_iff.1 h;unfold bM;rw [List.drop_eq_getElem_cons hlt,e,List.takeWhile_cons,hb];simp
theorem ru {l:List UInt8} {p:Nat} (h:l.length<=p):bM l p=p:=by
 unfold bM;rw [List.drop_eq_nil_of_le h];simp
theorem iJ (l:List UInt8) (p:Nat):p<=bM l p:=Nat.le_add_right _ _
theorem oE {l:List UInt8} {p:Nat} (h:p<=l.length):bM l p<=l.length:=by
 unfold bM;have:=(List.takeWhile_sublist ep (l:=l.drop p)).length_le;simp at this;omega
end
end Go.Proofs.YtgmnmnnoahdjnaaGreatDoor
