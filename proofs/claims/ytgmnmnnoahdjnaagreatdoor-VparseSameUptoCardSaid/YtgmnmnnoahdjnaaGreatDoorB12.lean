import Derived.Test.YtgmnmnnoahdjnaaGreatDoorB10
import Derived.Test.YtgmnmnnoahdjnaaGreatDoorB09
set_option maxRecDepth 100000
set_option maxHeartbeats 16000000
set_option linter.unusedVariables false
set_option linter.unusedSimpArgs false
namespace Go.Proofs.YtgmnmnnoahdjnaaGreatDoor
section
open Go.RowKit
theorem oN8 (n:Nat) (h:n<256):(UInt8.ofNat n).toNat=n:=by
 have:(UInt8.ofNat n).toNat=n % 256:=by simp
 rw [this];omega
theorem dz (c:Nat) (r:List UInt8) (h:gW (c:Int)=true):au (ag c++r)=(c,(ag c).length)∧1≤(ag c).length∧(ag c).length≤4:=by
 have hc:=(fa c).1 h;by_cases h1:c<128
 ·obtain ⟨c0,e0,h0⟩:∃ c0:UInt8,UInt8.ofNat c=c0∧c0.toNat=c:=⟨_,rfl,oN8 _ (by omega)⟩
  have e:ag c=[c0]:=by unfold ag;rw [if_pos h1,e0]
  rw [e,List.cons_append,List.nil_append,kM ((ok1 c0 r).2 (by omega))];refine ⟨?_,by simp,by simp⟩;have:bt (c0::r) 1=c0.toNat:=by simp [bt]
  rw [this,h0];rfl
 by_cases h2:c<2048
 ·obtain ⟨c0,e0,h0⟩:∃ c0:UInt8,UInt8.ofNat (192+c / 64)=c0∧c0.toNat=192+c / 64:=⟨_,rfl,oN8 _ (by omega)⟩
  obtain ⟨c1,e1,k1⟩:∃ c1:UInt8,UInt8.ofNat (128+c % 64)=c1∧c1.toNat=128+c % 64:=⟨_,rfl,oN8 _ (by omega)⟩
  have e:ag c=[c0,c1]:=by unfold ag;rw [if_neg h1,if_pos h2,e0,e1]
  have n1:cd (c0::c1::r) 1=false:=by rw [Bool.eq_false_iff,Ne,ok1];omega
  rw [e];show au (c0::c1::r)=_∧_
  rw [nK n1 ((ok2 c0 c1 r).2 (by omega))];refine ⟨?_,by simp,by simp⟩;have:bt (c0::c1::r) 2=c0.toNat % 32*64+c1.toNat % 64:=by simp [bt]
  rw [this,h0,k1];show (_,2)=(_,2)
  congr 1;omega
 by_cases h3:c<65536
 ·obtain ⟨c0,e0,h0⟩:∃ c0:UInt8,UInt8.ofNat (224+c / 4096)=c0∧c0.toNat=224+c / 4096:=⟨_,rfl,oN8 _ (by omega)⟩
  obtain ⟨c1,e1,k1⟩:∃ c1:UInt8,UInt8.ofNat (128+c / 64 % 64)=c1∧c1.toNat=128+c / 64 % 64:=⟨_,rfl,oN8 _ (by omega)⟩
  obtain ⟨c2,e2,k2⟩:∃ c2:UInt8,UInt8.ofNat (128+c % 64)=c2∧c2.toNat=128+c % 64:=⟨_,rfl,oN8 _ (by omega)⟩
  have e:ag c=[c0,c1,c2]:=by unfold ag;rw [if_neg h1,if_neg h2,if_pos h3,e0,e1,e2]
  have n1:cd (c0::c1::c2::r) 1=false:=by rw [Bool.eq_false_iff,Ne,ok1];omega
  have n2:cd (c0::c1::c2::r) 2=false:=no2 _ _ (by omega);rw [e];show au (c0::c1::c2::r)=_∧_
  rw [nL n1 n2 ((ok3 c0 c1 c2 r).2 (by omega))];refine ⟨?_,by simp,by simp⟩;have:bt (c0::c1::c2::r) 3=(c0.toNat % 16*64+c1.toNat % 64)*64+c2.toNat % 64:=by simp [bt]
  rw [this,h0,k1,k2];show (_,3)=(_,3)
  congr 1;omega
 ·obtain ⟨c0,e0,h0⟩:∃ c0:UInt8,UInt8.ofNat (240+c / 262144)=c0∧c0.toNat=240+c / 262144:=⟨_,rfl,oN8 _ (by omega)⟩
  obtain ⟨c1,e1,k1⟩:∃ c1:UInt8,UInt8.ofNat (128+c / 4096 % 64)=c1∧c1.toNat=128+c / 4096 % 64:=⟨_,rfl,oN8 _ (by omega)⟩
  obtain ⟨c2,e2,k2⟩:∃ c2:UInt8,UInt8.ofNat (128+c / 64 % 64)=c2∧c2.toNat=128+c / 64 % 64:=⟨_,rfl,oN8 _ (by omega)⟩
  obtain ⟨c3,e3,k3⟩:∃ c3:UInt8,UInt8.ofNat (128+c % 64)=c3∧c3.toNat=128+c % 64:=⟨_,rfl,oN8 _ (by omega)⟩
  have e:ag c=[c0,c1,c2,c3]:=by unfold ag;rw [if_neg h1,if_neg h2,if_neg h3,e0,e1,e2,e3]
  have n1:cd (c0::c1::c2::c3::r) 1=false:=by rw [Bool.eq_false_iff,Ne,ok1];omega
  have n2:cd (c0::c1::c2::c3::r) 2=false:=no2 _ _ (by omega);have n3:cd (c0::c1::c2::c3::r) 3=false:=no3 _ _ (by omega);rw [e];show au (c0::c1::c2::c3::r)=_∧_
  rw [nM n1 n2 n3 ((ok4 c0 c1 c2 c3 r).2 (by omega))];refine ⟨?_,by simp,by simp⟩;have:bt (c0::c1::c2::c3::r) 4=((c0.toNat % 8*64+c1.toNat % 64)*64+c2.toNat % 64)*64+c3.toNat % 64:=by simp [bt]
  rw [this,h0,k1,k2,k3];show (_,4)=(_,4)
  congr 1;omega
theorem vB {cs:List Nat} (h:∀ c ∈ cs,gW (c:Int)=true):cs.length≤(cs.flatMap ag).length∧(cs.flatMap ag).length≤4*cs.length:=by
 induction cs with
 | nil=>simp
 |cons c r ih =>
  have h1:=dz c [] (h c List.mem_cons_self);have h2:=ih (fun x hx=>h x (List.mem_cons_of_mem _ hx));rw [List.flatMap_cons,List.length_append,List.length_cons];omega
theorem nj {W:World} {b o:Nat} {ks:List (List UInt8)} {n:Nat} (h:RdF W (fun _=>True) (some ⟨b,o,none⟩) (jh ks)) {i:Nat} {t:List UInt8} (hx:ks[i]? = some t):W.cell? ⟨b,o+i,none⟩=some (.string ⟨t.toArray⟩):=by
 have hkl:=List.getElem?_eq_some_iff.1 hx;obtain ⟨b',o',e,_,_,hc⟩:=h (by intro e;have h:=gc ks;rw [e] at h;have:=hkl.1;simp at h;omega);injection e with e;injection e with e1 e2
 subst e1;subst e2;rw [hc i (by rw [gc];exact hkl.1)];simp [jh,hkl.2]
theorem sS {W:World} {F:Nat→Prop} {A:Option Addr} {ks:List (List UInt8)} (h:RdF W F A (jh ks)) (hx:0<ks.length):∃ b o,A=some ⟨b,o,none⟩∧b<W.heap.size:=by
 obtain ⟨b,o,e,hb,_⟩:=h (by intro e;have h:=gc ks;rw [e] at h;simp at h;omega);exact ⟨b,o,e,hb⟩
theorem jd (v:JV):1≤bI v:=by cases v;unfold bI;omega
theorem lL:∀ xs:List JV,xs.length≤br xs
 | []=>Nat.zero_le _
 | x::r=>by have:=lL r;have:=jd x;rw [br,List.length_cons];omega
theorem mZ {xs:List JV} {i:Nat} {x:JV} (h:xs[i]? = some x):br (xs.take (i+1))=br (xs.take i)+bI x∧br (xs.take i)+bI x≤br xs:=by
 have e:br (xs.take (i+1))=br (xs.take i)+bI x:=by rw [List.take_add_one,h,fc];show _+br [x]=_;rw [br,br];omega
 refine ⟨e,?_⟩;have:=fc (xs.take (i+1)) (xs.drop (i+1));rw [List.take_append_drop] at this;omega
def mm:Nat→List UInt8→Bool
 | _,[]=>true
 | 0,_::_=>false
 | f+1,c::r=>if (au (c::r)).2=0 then false else mm f ((c::r).drop (au (c::r)).2)
def cR (l:List UInt8):Bool:=mm l.length l
theorem mn:∀ (f g:Nat) (l:List UInt8),l.length≤f→l.length≤g→mm f l=mm g l
 | f,g,[],_,_=>by cases f<;>cases g<;>rfl
 | 0,_,_::_,h,_=>by simp at h
 | _+1,0,_::_,_,h=>by simp at h
 |f+1,g+1,c::r,h,h'=>by
  unfold mm;split
  ·rfl
  ·rename_i hn
   refine mn f g _ ?_ ?_ <;> · rw [List.length_drop,List.length_cons] at *;omega
theorem jj {l:List UInt8} (h:l≠[]):cR l=(if (au l).2=0 then false else cR (l.drop (au l).2)):=by
 cases l with
 | nil=>exact absurd rfl h
 |cons c r =>
  show mm (r.length+1) (c::r)=_
  unfold mm;split
  ·rfl
  ·rename_i hn
   refine mn _ _ _ ?_ ?_ <;> · rw [List.length_drop,List.length_cons];omega
theorem nx:∀ {cs:List Nat},(∀ c ∈ cs,gW (c:Int)=true)→cR (cs.flatMap ag)=true
 | [],_=>rfl
 |c::r,h=>by
  obtain ⟨h1,h2,h3⟩:=dz c (r.flatMap ag) (h c List.mem_cons_self);rw [List.flatMap_cons,jj (by intro e;have h:=congrArg List.length e;rw [List.length_append] at h;simp only [List.length_nil] at h;omega),h1,if_neg (by show ¬ (ag c).length=0;omega)];show cR ((ag c++_).drop (ag c).length)=_
  rw [List.drop_left];exact nx (fun x hx=>h x (List.mem_cons_of_mem _ hx))
theorem gL.ok {s:List UInt8} (h:gL s):cR s=true:=by
 obtain ⟨cs,h1,rfl,_⟩:=h;exact nx h1
theorem oR (l:List UInt8):(au l).2≤l.length∧(au l).2≤4:=⟨kg l,lc l⟩
def dh:List (List UInt8)→Bool
 | []=>true
 | k::r=>cR k && ((match r with | []=>true | k'::_=>ltB k k') && dh r)
theorem lB:∀ {keys:List (List UInt8)},dh keys=true ↔ (∀ t ∈ keys,cR t=true)∧UpB keys
 | []=>by simp [dh]
 | [k]=>by simp [dh]
 |k::k'::r=>by
  have ih:=lB (keys:=k'::r);unfold dh;rw [Bool.and_eq_true,Bool.and_eq_true,ih];show cR k=true∧ltB k k'=true∧_ ↔ _
  constructor
  ·rintro ⟨h1,h2,h3,h4⟩;refine ⟨fun t ht=>?_,List.pairwise_cons.2 ⟨fun y hy=>?_,h4⟩⟩
   ·rcases List.mem_cons.1 ht with rfl | ht
    ·exact h1
    ·exact h3 t ht
   ·rcases List.mem_cons.1 hy with rfl | hy
    ·exact h2
    ·exact iz h2 ((List.pairwise_cons.1 h4).1 y hy)
  ·rintro ⟨h1,h2⟩;have h2:=List.pairwise_cons.1 h2;exact ⟨h1 k List.mem_cons_self,h2.1 k' List.mem_cons_self,fun t ht=>h1 t (List.mem_cons_of_mem _ ht),h2.2⟩
def cC (k n:Int) (s:List UInt8) (nk:Nat) (keys:List (List UInt8)):Bool :=
 if k=1 then n == 0 && s == [] && nk == 0 && keys == []
 else if k=2 then (n == 0 || n == 1) && s == [] && nk == 0 && keys == []
 else if k=3 then s == [] && nk == 0 && keys == []
 else if k=4 then n == 0 && cR s && nk == 0 && keys == []
 else if k=5 then n == 0 && s == [] && keys == []
 else if k=6 then n == 0 && s == [] && nk == keys.length && dh keys
 else false
mutual
/-- right within so many levels -/
def iN:Nat→JV→Bool
 | d,.mk k n s kids keys=>cC k n s kids.length keys && (decide (5≤k→d≠0) && gU (d-1) kids)
def gU:Nat→List JV→Bool
 | _,[]=>true
 | d,x::r=>iN d x && gU d r
end
def good (v:JV):Bool:=iN 8 v && decide (bI v≤256)
theorem e7 {k n:Int} {s:List UInt8} {nk:Nat} {keys:List (List UInt8)} (h:cC k n s nk keys=true):1≤k∧k≤6:=by
 unfold cC at h;split at h
 ·omega
 split at h
 ·omega
 split at h
 ·omega
 split at h
 ·omega
 split at h
 ·omega
 split at h
 ·omega
 ·cases h
theorem lu {k n:Int} {s:List UInt8} {nk:Nat} {keys:List (List UInt8)} (h:cC k n s nk keys=true) (hk:k<5):nk=0∧keys=[]:=by
 have:=e7 h;unfold cC at h;split at h
 ·simp only [Bool.and_eq_true,beq_iff_eq] at h;exact ⟨h.1.2,h.2⟩
 split at h
 ·simp only [Bool.and_eq_true,beq_iff_eq] at h;exact ⟨h.1.2,h.2⟩
 split at h
 ·simp only [Bool.and_eq_true,beq_iff_eq] at h;exact ⟨h.1.2,h.2⟩
 split at h
 ·simp only [Bool.and_eq_true,beq_iff_eq] at h;exact ⟨h.1.2,h.2⟩
 ·omega
theorem qA {n:Int} {s:List UInt8} {nk:Nat} {keys:List (List UInt8)} (h:cC 5 n s nk keys=true):n=0∧s=[]∧keys=[]:=by
 unfold cC at h;simp at h;exact ⟨h.1.1,h.1.2,h.2⟩
theorem sj {n:Int} {s:List UInt8} {nk:Nat} {keys:List (List UInt8)} (h:cC 6 n s nk keys=true):n=0∧s=[]∧nk=keys.length∧dh keys=true:=by
 unfold cC at h;simp at h;exact ⟨h.1.1.1,h.1.1.2,h.1.2,h.2⟩
theorem qj.good {k n:Int} {s:List UInt8} {kids:List JV} {keys:List (List UInt8)} (h:qj k n s kids keys):cC k n s kids.length keys=true:=by
 have hk:=h.kind;have hky:=h.keyed;have ht:=h.text;have hl:=h.leaf;have hn:=h.num;have hk7:k=1∨k=2∨k=3∨k=4∨k=5∨k=6:=by omega
 rcases hk7 with rfl | rfl | rfl | rfl | rfl | rfl
 ·have h1:=hl (by decide);have h2:=hn (by decide);simp at ht hky h2;subst h1 ht hky h2;rfl
 ·have h1:=hl (by decide);have h2:=hn (by decide);simp at ht hky h2;subst h1 ht hky;rcases h2 with rfl | rfl<;>rfl
 ·have h1:=hl (by decide);simp at ht hky;subst h1 ht hky;rfl
 ·have h1:=hl (by decide);have h2:=hn (by decide);simp at ht hky h2;subst h1 hky h2;have:=ht.ok;simp [cC,this]
 ·have h2:=hn (by decide);simp at ht hky h2;subst ht hky h2;simp [cC]
 ·have h2:=hn (by decide);simp at ht hky h2;subst ht h2;have:=lB.2 ⟨fun t htt=>(h.texts t htt).ok,h.up⟩;simp [cC,this,hky]
mutual
theorem je.good:∀ {d:Nat} {v:JV},je d v→iN d v=true
 |d,.mk k n s kids keys,h=>by
  unfold je at h;unfold iN;rw [h.1.good,fe.good h.2.2];rw [decide_eq_true h.2.1];rfl
theorem fe.good:∀ {d:Nat} {xs:List JV},fe d xs→gU d xs=true
 | _,[],_=>by simp [gU]
 |d,x::r,h=>by
  unfold fe at h;unfold gU;rw [je.good h.1,fe.good h.2];rfl
end
def TT:Nat→Prop:=fun _=>True
def iw (n:Int):Prop:=-9223372036854775808≤n∧n≤9223372036854775807
mutual
def inJ:JV→Prop | .mk k n s kids keys=>iw k∧iw n∧inL kids
def inL:List JV→Prop | []=>True | x::r=>inJ x∧inL r
end
theorem rv:∀ {xs:List JV},inL xs ↔ ∀ x ∈ xs,inJ x
 | []=>by simp [inL]
 | x::r=>by simp [inL,rv (xs:=r)]
def fm:List (List UInt8)→Nat | []=>0 | k::r=>k.length+1+fm r
mutual
/-- how much a value is -/
def cZ:JV→Nat | .mk k n s kids keys=>1+s.length+fm keys+eF kids
def eF:List JV→Nat | []=>0 | x::r=>cZ x+eF r
end
theorem mB (v:JV):1≤cZ v:=by cases v;unfold cZ;omega
theorem mC:∀ ks:List (List UInt8),ks.length≤fm ks
 | []=>Nat.zero_le _
 | k::r=>by have:=mC r;unfold fm;rw [List.length_cons];omega
theorem oO:∀ {ks:List (List UInt8)} {t:List UInt8},t ∈ ks→t.length+1≤fm ks
 |k::r,t,h=>by
  unfold fm;rcases List.mem_cons.1 h with rfl | h
  ·omega
  ·have:=oO h;omega
theorem mD:∀ xs:List JV,xs.length≤eF xs
 | []=>Nat.zero_le _
 | x::r=>by have:=mD r;have:=mB x;unfold eF;rw [List.length_cons];omega
mutual
theorem lM:∀ v:JV,bI v≤cZ v
 | .mk k n s kids keys=>by have:=ku kids;unfold bI cZ;omega
theorem ku:∀ xs:List JV,br xs≤eF xs
 | []=>Nat.le_refl _
 | x::r=>by have:=lM x;have:=ku r;unfold br eF;omega
end
mutual
/-- the lengths of a value's parts -/
def su:JV→Prop | .mk k n s kids keys=>s.length≤4194304∧kids.length≤4194304∧keys.length≤4194304∧(∀ t ∈ keys,t.length≤4194304)∧qH kids
def qH:List JV→Prop | []=>True | x::r=>su x∧qH r
end
theorem po:∀ {xs:List JV},qH xs ↔ ∀ x ∈ xs,su x
 | []=>by simp [qH]
 | x::r=>by simp [qH,po (xs:=r)]
mutual
theorem mR:∀ v:JV,cZ v≤4194304→su v
 | .mk k n s kids keys,h=>by
  unfold cZ at h;have:=mC keys;have:=mD kids;unfold su;exact ⟨by omega,by omega,by omega,fun t ht=>by have:=oO ht;omega,mS kids (by omega)⟩
theorem mS:∀ xs:List JV,eF xs≤4194304→qH xs
 | [],_=>trivial
 | x::r,h=>by unfold eF at h;unfold qH;exact ⟨mR x (by omega),mS r (by omega)⟩
end
theorem m5:∀ {xs:List JV} {x:JV},x ∈ xs→bI x≤br xs
 |y::r,x,h=>by
  unfold br;rcases List.mem_cons.1 h with rfl | h
  ·omega
  ·have:=m5 h;omega
structure df (v:JV):Prop where
 ints:inJ v
 nodes:bI v≤4194304
 lens:su v
theorem df.of {v:JV} (h1:inJ v) (h2:cZ v≤4194304):df v:=⟨h1,Nat.le_trans (lM v) h2,mR v h2⟩
theorem df.out {k n:Int} {s:List UInt8} {kids:List JV} {keys:List (List UInt8)} (h:df (.mk k n s kids keys)) :
  iw k∧iw n∧s.length≤4194304∧kids.length≤4194304∧keys.length≤4194304∧(∀ t ∈ keys,t.length≤4194304)∧∀ x ∈ kids,df x:=by
 obtain ⟨h1,h2,h3⟩:=h;unfold inJ at h1;unfold bI at h2;unfold su at h3;refine ⟨h1.1,h1.2.1,h3.1,h3.2.1,h3.2.2.1,h3.2.2.2.1,fun x hx=>⟨rv.1 h1.2.2 x hx,?_,po.1 h3.2.2.2.2 x hx⟩⟩;have:=m5 hx;omega
instance:Inhabited JV:=⟨cW⟩
end
end Go.Proofs.YtgmnmnnoahdjnaaGreatDoor
