import Derived.Test.YtgolomgmnanbpaaGreatDoorW08
import Derived.Test.YtgolomgmnanbpaaGreatDoorW07
set_option maxRecDepth 100000
set_option maxHeartbeats 16000000
namespace Go.Proofs.YtgolomgmnanbpaaGreatDoor
set_option linter.unusedVariables false
set_option linter.unusedSimpArgs false
open Go.RowKit
theorem oN8 (n:Nat) (h:n<256):(UInt8.ofNat n).toNat=n:=by
 have:(UInt8.ofNat n).toNat=n % 256:=by simp
 rw [this];omega
theorem cpBegin_bytes (c:Nat) (r:List UInt8) (h:isCp (c:Int)=true):cpBegin (cpBytes c++r)=(c,(cpBytes c).length)∧1≤(cpBytes c).length∧(cpBytes c).length≤4:=by
 have hc:=(isCp_iff c).1 h;by_cases h1:c<128
 ·obtain ⟨c0,e0,h0⟩:∃ c0:UInt8,UInt8.ofNat c=c0∧c0.toNat=c:=⟨_,rfl,oN8 _ (by omega)⟩
  have e:cpBytes c=[c0]:=by unfold cpBytes;rw [if_pos h1,e0]
  rw [e,List.cons_append,List.nil_append,begin_1 ((ok1 c0 r).2 (by omega))];refine ⟨?_,by simp,by simp⟩;have:cpNum (c0::r) 1=c0.toNat:=by simp [cpNum]
  rw [this,h0];rfl
 by_cases h2:c<2048
 ·obtain ⟨c0,e0,h0⟩:∃ c0:UInt8,UInt8.ofNat (192+c / 64)=c0∧c0.toNat=192+c / 64:=⟨_,rfl,oN8 _ (by omega)⟩
  obtain ⟨c1,e1,k1⟩:∃ c1:UInt8,UInt8.ofNat (128+c % 64)=c1∧c1.toNat=128+c % 64:=⟨_,rfl,oN8 _ (by omega)⟩
  have e:cpBytes c=[c0,c1]:=by unfold cpBytes;rw [if_neg h1,if_pos h2,e0,e1]
  have n1:cpOk (c0::c1::r) 1=false:=by rw [Bool.eq_false_iff,Ne,ok1];omega
  rw [e];show cpBegin (c0::c1::r)=_∧_
  rw [begin_2 n1 ((ok2 c0 c1 r).2 (by omega))];refine ⟨?_,by simp,by simp⟩;have:cpNum (c0::c1::r) 2=c0.toNat % 32*64+c1.toNat % 64:=by simp [cpNum]
  rw [this,h0,k1];show (_,2)=(_,2)
  congr 1;omega
 by_cases h3:c<65536
 ·obtain ⟨c0,e0,h0⟩:∃ c0:UInt8,UInt8.ofNat (224+c / 4096)=c0∧c0.toNat=224+c / 4096:=⟨_,rfl,oN8 _ (by omega)⟩
  obtain ⟨c1,e1,k1⟩:∃ c1:UInt8,UInt8.ofNat (128+c / 64 % 64)=c1∧c1.toNat=128+c / 64 % 64:=⟨_,rfl,oN8 _ (by omega)⟩
  obtain ⟨c2,e2,k2⟩:∃ c2:UInt8,UInt8.ofNat (128+c % 64)=c2∧c2.toNat=128+c % 64:=⟨_,rfl,oN8 _ (by omega)⟩
  have e:cpBytes c=[c0,c1,c2]:=by unfold cpBytes;rw [if_neg h1,if_neg h2,if_pos h3,e0,e1,e2]
  have n1:cpOk (c0::c1::c2::r) 1=false:=by rw [Bool.eq_false_iff,Ne,ok1];omega
  have n2:cpOk (c0::c1::c2::r) 2=false:=no2 _ _ (by omega);rw [e];show cpBegin (c0::c1::c2::r)=_∧_
  rw [begin_3 n1 n2 ((ok3 c0 c1 c2 r).2 (by omega))];refine ⟨?_,by simp,by simp⟩;have:cpNum (c0::c1::c2::r) 3=(c0.toNat % 16*64+c1.toNat % 64)*64+c2.toNat % 64:=by simp [cpNum]
  rw [this,h0,k1,k2];show (_,3)=(_,3)
  congr 1;omega
 ·obtain ⟨c0,e0,h0⟩:∃ c0:UInt8,UInt8.ofNat (240+c / 262144)=c0∧c0.toNat=240+c / 262144:=⟨_,rfl,oN8 _ (by omega)⟩
  obtain ⟨c1,e1,k1⟩:∃ c1:UInt8,UInt8.ofNat (128+c / 4096 % 64)=c1∧c1.toNat=128+c / 4096 % 64:=⟨_,rfl,oN8 _ (by omega)⟩
  obtain ⟨c2,e2,k2⟩:∃ c2:UInt8,UInt8.ofNat (128+c / 64 % 64)=c2∧c2.toNat=128+c / 64 % 64:=⟨_,rfl,oN8 _ (by omega)⟩
  obtain ⟨c3,e3,k3⟩:∃ c3:UInt8,UInt8.ofNat (128+c % 64)=c3∧c3.toNat=128+c % 64:=⟨_,rfl,oN8 _ (by omega)⟩
  have e:cpBytes c=[c0,c1,c2,c3]:=by unfold cpBytes;rw [if_neg h1,if_neg h2,if_neg h3,e0,e1,e2,e3]
  have n1:cpOk (c0::c1::c2::c3::r) 1=false:=by rw [Bool.eq_false_iff,Ne,ok1];omega
  have n2:cpOk (c0::c1::c2::c3::r) 2=false:=no2 _ _ (by omega);have n3:cpOk (c0::c1::c2::c3::r) 3=false:=no3 _ _ (by omega);rw [e];show cpBegin (c0::c1::c2::c3::r)=_∧_
  rw [begin_4 n1 n2 n3 ((ok4 c0 c1 c2 c3 r).2 (by omega))];refine ⟨?_,by simp,by simp⟩;have:cpNum (c0::c1::c2::c3::r) 4=((c0.toNat % 8*64+c1.toNat % 64)*64+c2.toNat % 64)*64+c3.toNat % 64:=by simp [cpNum]
  rw [this,h0,k1,k2,k3];show (_,4)=(_,4)
  congr 1;omega
theorem cps_len {cs:List Nat} (h:∀ c ∈ cs,isCp (c:Int)=true):cs.length≤(cs.flatMap cpBytes).length∧(cs.flatMap cpBytes).length≤4*cs.length:=by
 induction cs with
 | nil=>simp
 | cons c r ih =>
  have h1:=cpBegin_bytes c [] (h c List.mem_cons_self);have h2:=ih (fun x hx=>h x (List.mem_cons_of_mem _ hx));rw [List.flatMap_cons,List.length_append,List.length_cons];omega
theorem strV_cell {W:World} {b o:Nat} {ks:List (List UInt8)} {n:Nat} (h:RdF W (fun _=>True) (some ⟨b,o,none⟩) (strV ks)) {i:Nat} {t:List UInt8} (hx:ks[i]? = some t):W.cell? ⟨b,o+i,none⟩=some (.string ⟨t.toArray⟩):=by
 have hkl:=List.getElem?_eq_some_iff.1 hx;obtain ⟨b',o',e,_,_,hc⟩:=h (by intro e;have h:=strV_len ks;rw [e] at h;have:=hkl.1;simp at h;omega);injection e with e;injection e with e1 e2
 subst e1;subst e2;rw [hc i (by rw [strV_len];exact hkl.1)];simp [strV,hkl.2]
theorem strV_some {W:World} {F:Nat→Prop} {A:Option Addr} {ks:List (List UInt8)} (h:RdF W F A (strV ks)) (hx:0<ks.length):∃ b o,A=some ⟨b,o,none⟩∧b<W.heap.size:=by
 obtain ⟨b,o,e,hb,_⟩:=h (by intro e;have h:=strV_len ks;rw [e] at h;simp at h;omega);exact ⟨b,o,e,hb⟩
theorem nodesJ_pos (v:JV):1≤nodesJ v:=by cases v;unfold nodesJ;omega
theorem nodesL_len:∀ xs:List JV,xs.length≤nodesL xs
 | []=>Nat.zero_le _
 | x::r=>by have:=nodesL_len r;have:=nodesJ_pos x;rw [nodesL,List.length_cons];omega
theorem nodesL_at {xs:List JV} {i:Nat} {x:JV} (h:xs[i]? = some x):nodesL (xs.take (i+1))=nodesL (xs.take i)+nodesJ x∧nodesL (xs.take i)+nodesJ x≤nodesL xs:=by
 have e:nodesL (xs.take (i+1))=nodesL (xs.take i)+nodesJ x:=by rw [List.take_add_one,h,nodesL_app];show _+nodesL [x]=_;rw [nodesL,nodesL];omega
 refine ⟨e,?_⟩;have:=nodesL_app (xs.take (i+1)) (xs.drop (i+1));rw [List.take_append_drop] at this;omega
set_option linter.unusedVariables false
set_option linter.unusedSimpArgs false
open Go.RowKit
def txtGo:Nat→List UInt8→Bool
 | _,[]=>true
 | 0,_::_=>false
 | f+1,c::r=>if (cpBegin (c::r)).2=0 then false else txtGo f ((c::r).drop (cpBegin (c::r)).2)
def txtOk (l:List UInt8):Bool:=txtGo l.length l
theorem txtGo_same:∀ (f g:Nat) (l:List UInt8),l.length≤f→l.length≤g→txtGo f l=txtGo g l
 | f,g,[],_,_=>by cases f<;>cases g<;>rfl
 | 0,_,_::_,h,_=>by simp at h
 | _+1,0,_::_,_,h=>by simp at h
 | f+1,g+1,c::r,h,h'=>by
  unfold txtGo;split
  ·rfl
  ·rename_i hn
   refine txtGo_same f g _ ?_ ?_ <;> · rw [List.length_drop,List.length_cons] at *;omega
theorem txtOk_nil:txtOk []=true:=rfl
theorem txtOk_step {l:List UInt8} (h:l≠[]):txtOk l=(if (cpBegin l).2=0 then false else txtOk (l.drop (cpBegin l).2)):=by
 cases l with
 | nil=>exact absurd rfl h
 | cons c r =>
  show txtGo (r.length+1) (c::r)=_
  unfold txtGo;split
  ·rfl
  ·rename_i hn
   refine txtGo_same _ _ _ ?_ ?_ <;> · rw [List.length_drop,List.length_cons];omega
theorem txtOk_cps:∀ {cs:List Nat},(∀ c ∈ cs,isCp (c:Int)=true)→txtOk (cs.flatMap cpBytes)=true
 | [],_=>rfl
 | c::r,h=>by
  obtain ⟨h1,h2,h3⟩:=cpBegin_bytes c (r.flatMap cpBytes) (h c List.mem_cons_self);rw [List.flatMap_cons,txtOk_step (by intro e;have h:=congrArg List.length e;rw [List.length_append] at h;simp only [List.length_nil] at h;omega),h1,if_neg (by show ¬ (cpBytes c).length=0;omega)];show txtOk ((cpBytes c++_).drop (cpBytes c).length)=_
  rw [List.drop_left];exact txtOk_cps (fun x hx=>h x (List.mem_cons_of_mem _ hx))
theorem IsText.ok {s:List UInt8} (h:IsText s):txtOk s=true:=by
 obtain ⟨cs,h1,rfl,_⟩:=h;exact txtOk_cps h1
theorem cpBegin_le4 (l:List UInt8):(cpBegin l).2≤l.length∧(cpBegin l).2≤4:=⟨cpBegin_len l,cpBegin_le l⟩
def keysOk:List (List UInt8)→Bool
 | []=>true
 | k::r=>txtOk k && ((match r with | []=>true | k'::_=>ltB k k') && keysOk r)
theorem keysOk_iff:∀ {keys:List (List UInt8)},keysOk keys=true ↔ (∀ t ∈ keys,txtOk t=true)∧UpB keys
 | []=>by simp [keysOk]
 | [k]=>by simp [keysOk]
 | k::k'::r=>by
  have ih:=keysOk_iff (keys:=k'::r);unfold keysOk;rw [Bool.and_eq_true,Bool.and_eq_true,ih];show txtOk k=true∧ltB k k'=true∧_ ↔ _
  constructor
  ·rintro ⟨h1,h2,h3,h4⟩;refine ⟨fun t ht=>?_,List.pairwise_cons.2 ⟨fun y hy=>?_,h4⟩⟩
   ·rcases List.mem_cons.1 ht with rfl | ht
    ·exact h1
    ·exact h3 t ht
   ·rcases List.mem_cons.1 hy with rfl | hy
    ·exact h2
    ·exact ltB_trans h2 ((List.pairwise_cons.1 h4).1 y hy)
  ·rintro ⟨h1,h2⟩;have h2:=List.pairwise_cons.1 h2;exact ⟨h1 k List.mem_cons_self,h2.1 k' List.mem_cons_self,fun t ht=>h1 t (List.mem_cons_of_mem _ ht),h2.2⟩
def goodA (k n:Int) (s:List UInt8) (nk:Nat) (keys:List (List UInt8)):Bool :=
 if k=1 then n == 0 && s == [] && nk == 0 && keys == []
 else if k=2 then (n == 0 || n == 1) && s == [] && nk == 0 && keys == []
 else if k=3 then s == [] && nk == 0 && keys == []
 else if k=4 then n == 0 && txtOk s && nk == 0 && keys == []
 else if k=5 then n == 0 && s == [] && keys == []
 else if k=6 then n == 0 && s == [] && nk == keys.length && keysOk keys
 else false
mutual
/-- right within so many levels -/
def goodJ:Nat→JV→Bool
 | d,.mk k n s kids keys=>goodA k n s kids.length keys && (decide (5≤k→d≠0) && goodL (d-1) kids)
def goodL:Nat→List JV→Bool
 | _,[]=>true
 | d,x::r=>goodJ d x && goodL d r
end
theorem goodL_iff {d:Nat}:∀ {xs:List JV},goodL d xs=true ↔ ∀ x ∈ xs,goodJ d x=true
 | []=>by simp [goodL]
 | x::r=>by simp [goodL,goodL_iff (xs:=r)]
def good (v:JV):Bool:=goodJ 8 v && decide (nodesJ v≤256)
theorem goodA_kind {k n:Int} {s:List UInt8} {nk:Nat} {keys:List (List UInt8)} (h:goodA k n s nk keys=true):1≤k∧k≤6:=by
 unfold goodA at h;split at h
 ·omega
 split at h
 ·omega
 split at h
 ·omega
 split at h
 ·omega
 split at h
 ·omega
 split at h
 ·omega
 ·cases h
theorem goodA_leaf {k n:Int} {s:List UInt8} {nk:Nat} {keys:List (List UInt8)} (h:goodA k n s nk keys=true) (hk:k<5):nk=0∧keys=[]:=by
 have:=goodA_kind h;unfold goodA at h;split at h
 ·simp only [Bool.and_eq_true,beq_iff_eq] at h;exact ⟨h.1.2,h.2⟩
 split at h
 ·simp only [Bool.and_eq_true,beq_iff_eq] at h;exact ⟨h.1.2,h.2⟩
 split at h
 ·simp only [Bool.and_eq_true,beq_iff_eq] at h;exact ⟨h.1.2,h.2⟩
 split at h
 ·simp only [Bool.and_eq_true,beq_iff_eq] at h;exact ⟨h.1.2,h.2⟩
 ·omega
theorem goodA_list {n:Int} {s:List UInt8} {nk:Nat} {keys:List (List UInt8)} (h:goodA 5 n s nk keys=true):n=0∧s=[]∧keys=[]:=by
 unfold goodA at h;simp at h;exact ⟨h.1.1,h.1.2,h.2⟩
theorem goodA_obj {n:Int} {s:List UInt8} {nk:Nat} {keys:List (List UInt8)} (h:goodA 6 n s nk keys=true):n=0∧s=[]∧nk=keys.length∧keysOk keys=true:=by
 unfold goodA at h;simp at h;exact ⟨h.1.1.1,h.1.1.2,h.1.2,h.2⟩
theorem aloneK.good {k n:Int} {s:List UInt8} {kids:List JV} {keys:List (List UInt8)} (h:aloneK k n s kids keys):goodA k n s kids.length keys=true:=by
 have hk:=h.kind;have hky:=h.keyed;have ht:=h.text;have hl:=h.leaf;have hn:=h.num;have hk7:k=1∨k=2∨k=3∨k=4∨k=5∨k=6:=by omega
 rcases hk7 with rfl | rfl | rfl | rfl | rfl | rfl
 ·have h1:=hl (by decide);have h2:=hn (by decide);simp at ht hky h2;subst h1 ht hky h2;rfl
 ·have h1:=hl (by decide);have h2:=hn (by decide);simp at ht hky h2;subst h1 ht hky;rcases h2 with rfl | rfl<;>rfl
 ·have h1:=hl (by decide);simp at ht hky;subst h1 ht hky;rfl
 ·have h1:=hl (by decide);have h2:=hn (by decide);simp at ht hky h2;subst h1 hky h2;have:=ht.ok;simp [goodA,this]
 ·have h2:=hn (by decide);simp at ht hky h2;subst ht hky h2;simp [goodA]
 ·have h2:=hn (by decide);simp at ht hky h2;subst ht h2;have:=keysOk_iff.2 ⟨fun t htt=>(h.texts t htt).ok,h.up⟩;simp [goodA,this,hky]
mutual
theorem rightJ.good:∀ {d:Nat} {v:JV},rightJ d v→goodJ d v=true
 | d,.mk k n s kids keys,h=>by
  unfold rightJ at h;unfold goodJ;rw [h.1.good,rightL.good h.2.2];rw [decide_eq_true h.2.1];rfl
theorem rightL.good:∀ {d:Nat} {xs:List JV},rightL d xs→goodL d xs=true
 | _,[],_=>by simp [goodL]
 | d,x::r,h=>by
  unfold rightL at h;unfold goodL;rw [rightJ.good h.1,rightL.good h.2];rfl
end
end Go.Proofs.YtgolomgmnanbpaaGreatDoor
