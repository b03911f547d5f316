import Derived.Test.YtgolomgmnanbpaaGreatDoorV05
open Go.Value renaming int → Zi, slice → Zs, string → Zt, pointer → Zp
open Go.IntKind renaming i64 → Zq
set_option maxRecDepth 100000
set_option maxHeartbeats 16000000
set_option linter.unusedVariables false
set_option linter.unusedSimpArgs false
namespace Go.Proofs.YtgolomgmnanbpaaGreatDoor
open Go.RowKit
end Go.Proofs.YtgolomgmnanbpaaGreatDoor
namespace Go.Proofs.YtgolomgmnanbpaaGreatDoor
open Go.RowKit
def mr:Nat->Nat->List UInt8
 | 0,_=>[]
 | f+1,n=>if n<10 then [UInt8.ofNat (48+n)] else mr f (n / 10)++[UInt8.ofNat (48+n % 10)]
def eA (n:Nat):List UInt8:=mr (n+1) n
theorem lC:∀ (f g n:Nat),n<f->n<g->mr f n=mr g n
 | 0,_,_,h,_=>by omega
 | _+1,0,_,_,h=>by omega
 |f+1,g+1,n,h,h'=>by
  unfold mr;split
  ·rfl
  ·rw [lC f g (n / 10) (by omega) (by omega)]
theorem dE {n:Nat} (h:n<10):eA n=[UInt8.ofNat (48+n)]:=by unfold eA mr;rw [if_pos h]
theorem fL {n:Nat} (h:10<=n):eA n=eA (n / 10)++[UInt8.ofNat (48+n % 10)]:=by
 unfold eA;rw [mr,if_neg (by omega),lC n (n / 10+1) (n / 10) (by omega) (by omega)]
def cj (n:Int):List UInt8:=if n<0 then 45::eA n.natAbs else eA n.natAbs
def kp (c:Nat):Option Nat :=
 if c=34 then some 34 else if c=92 then some 92 else if c=8 then some 98 else if c=12 then some 102 else if c=10 then some 110 else if c=13 then some 114 else if c=9 then some 116 else none
def jA (n:Nat):Nat:=if n<10 then 48+n else 87+n
def aB (c:Nat):List UInt8 :=
 match kp c with
 | some s=>[92,UInt8.ofNat s]
 | none=>if c<32 then [92,117,48,48,UInt8.ofNat (48+c / 16),UInt8.ofNat (jA (c % 16))] else ai c
def o6:Nat->List UInt8->List Nat
 | _,[]=>[]
 | 0,_::_=>[]
 | f+1,c::r=>if (am (c::r)).2=0 then [] else (am (c::r)).1::o6 f ((c::r).drop (am (c::r)).2)
def dc (l:List UInt8):List Nat:=o6 l.length l
def eI (l:List UInt8):List UInt8:=34::(dc l).flatMap aB++[34]
mutual
def bf:JV->List UInt8
 | .mk k n s kids keys =>
  if k=1 then pF else if k=2 then (if n=1 then pY else lN) else if k=3 then cj n else if k=4 then eI s
  else if k=6 then 123::bD true true kids keys++[125] else 91::bD false true kids []++[93]
def bD:Bool->Bool->List JV->List (List UInt8)->List UInt8
 | _,_,[],_=>[]
 | o,f,x::r,keys=>(if f then [] else [44])++((if o then eI (keys.headD [])++[58] else [])++(bf x++bD o false r keys.tail))
end
theorem ly:∀ (f g:Nat) (l:List UInt8),l.length<=f->l.length<=g->o6 f l=o6 g l
 | f,g,[],_,_=>by cases f<;>cases g<;>rfl
 | 0,_,_::_,h,_=>by simp at h
 | _+1,0,_::_,_,h=>by simp at h
 |f+1,g+1,c::r,h,h'=>by
  unfold o6;split
  ·rfl
  ·rename_i hn
   rw [ly f g _ ?_ ?_] <;> · rw [List.length_drop,List.length_cons] at *;omega
theorem qH:dc []=[]:=rfl
theorem gm {l:List UInt8} (h:l≠[]):dc l=if (am l).2=0 then [] else (am l).1::dc (l.drop (am l).2):=by
 cases l with
 | nil=>exact absurd rfl h
 |cons c r =>
  show o6 (r.length+1) (c::r)=_
  unfold o6;split
  ·rfl
  ·rename_i hn
   rw [dc,ly _ _ _ ?_ (Nat.le_refl _)];rw [List.length_drop,List.length_cons];omega
theorem fC {l:List UInt8} {n:Nat} (h:bi l n=true):eC (aQ l n:Int)=true/\l.take n=ai (aQ l n):=by
 have h1:=(eJ _ _).1 h;exact ⟨(d8 _).2 h1.2.1,h1.2.2.symm⟩
theorem mA {l:List UInt8} (h:(am l).2≠0):eC ((am l).1:Int)=true/\l.take (am l).2=ai (am l).1:=by
 by_cases h1:bi l 1=true
 ·rw [fB h1];exact fC h1
 ·have f1:bi l 1=false:=by simpa using h1
  by_cases h2:bi l 2=true
  ·rw [jn f1 h2];exact fC h2
  ·have f2:bi l 2=false:=by simpa using h2
   by_cases h3:bi l 3=true
   ·rw [jp f1 f2 h3];exact fC h3
   ·have f3:bi l 3=false:=by simpa using h3
    by_cases h4:bi l 4=true
    ·rw [jd f1 f2 f3 h4];exact fC h4
    ·rw [cS f1 f2 f3 (by simpa using h4)] at h;exact absurd rfl h
theorem on:∀ (f:Nat) (l:List UInt8),l.length<=f->aL l=true->(∀ c ∈ dc l,eC (c:Int)=true)/\l=(dc l).flatMap ai
 | _,[],_,_=>⟨by simp [qH],rfl⟩
 | 0,_::_,h,_=>by simp at h
 |f+1,c::r,h,ht=>by
  have hne:c::r≠[]:=by simp
  rw [cV hne] at ht;by_cases h0:(am (c::r)).2=0
  ·rw [if_pos h0] at ht;cases ht
  ·rw [if_neg h0] at ht;obtain ⟨h1,h2⟩:=on f _ (by rw [List.length_drop,List.length_cons];rw [List.length_cons] at h;omega) ht;obtain ⟨k1,k2⟩:=mA h0;rw [gm hne,if_neg h0];refine ⟨λ x hx=>?_,?_⟩
   ·rcases List.mem_cons.1 hx with rfl | hx
    ·exact k1
    ·exact h1 x hx
   ·rw [List.flatMap_cons,← k2,← h2,List.take_append_drop]
theorem fu {l:List UInt8} (h:aL l=true):(∀ c ∈ dc l,eC (c:Int)=true)/\l=(dc l).flatMap ai:=on _ l (Nat.le_refl _) h
end Go.Proofs.YtgolomgmnanbpaaGreatDoor
namespace Go.Proofs.YtgolomgmnanbpaaGreatDoor
open Go.RowKit
theorem eB {s:ByteArray} {p k:Nat} {b:UInt8} {u:List UInt8} (h:s.data.toList.drop p=u) (hb:u[k]? = some b):s.get! (p+k)=b/\p+k<s.size:=by
 have h1:s.data.toList[p+k]? = some b:=by rw [← hb,← h,List.getElem?_drop]
 obtain ⟨hlt,he⟩:=List.getElem?_eq_some_iff.1 h1;have hs:p+k<s.size:=by rw [Array.length_toList] at hlt;exact hlt
 refine ⟨?_,hs⟩;show s.get! (p+k)=b
 have:s.get! (p+k)=s[p+k]:=by
  simp [ByteArray.get!,getElem!_pos,hs];rfl
 rw [this,← he];rfl
theorem qM {s:ByteArray} {p c:Nat} {r:List UInt8} (hc:eC (c:Int)=true) (h:s.data.toList.drop p=ai c++r):Utf8.decode s p=(c,(ai c).length):=by
 have hle:=(d8 c).1 hc;unfold ai at h ⊢;by_cases h1:c<128
 ·rw [if_pos h1] at h ⊢;obtain ⟨g0,s0⟩:=eB (k:=0) h (by rfl);have e0:=oN8 c (by omega);unfold Utf8.decode;simp only [g0,e0];rw [if_pos h1];rfl
 rw [if_neg h1] at h ⊢;by_cases h2:c<2048
 ·rw [if_pos h2] at h ⊢;obtain ⟨g0,s0⟩:=eB (k:=0) h (by rfl);obtain ⟨g1,s1⟩:=eB (k:=1) h (by rfl);have e0:=oN8 (192+c / 64) (by omega);have e1:=oN8 (128+c % 64) (by omega);unfold Utf8.decode;simp only [g0,g1,e0,e1];rw [if_neg (by omega),if_pos (by simp [s1];omega),if_pos (by omega)];simp;omega
 rw [if_neg h2] at h ⊢;by_cases h3:c<65536
 ·rw [if_pos h3] at h ⊢;obtain ⟨g0,s0⟩:=eB (k:=0) h (by rfl);obtain ⟨g1,s1⟩:=eB (k:=1) h (by rfl);obtain ⟨g2,s2⟩:=eB (k:=2) h (by rfl);have e0:=oN8 (224+c / 4096) (by omega);have e1:=oN8 (128+c / 64 % 64) (by omega);have e2:=oN8 (128+c % 64) (by omega);have hn:(224+c / 4096) % 16*4096+(128+c / 64 % 64) % 64*64+(128+c % 64) % 64=c:=by omega
  unfold Utf8.decode;simp only [g0,g1,g2,e0,e1,e2];rw [if_neg (by omega),if_neg (by simp;omega),if_pos (by simp [s1,s2];omega),hn,if_pos (by simp [Utf8.valid];omega)];simp
 ·rw [if_neg h3] at h ⊢;obtain ⟨g0,s0⟩:=eB (k:=0) h (by rfl);obtain ⟨g1,s1⟩:=eB (k:=1) h (by rfl);obtain ⟨g2,s2⟩:=eB (k:=2) h (by rfl);obtain ⟨g3,s3⟩:=eB (k:=3) h (by rfl);have e0:=oN8 (240+c / 262144) (by omega);have e1:=oN8 (128+c / 4096 % 64) (by omega);have e2:=oN8 (128+c / 64 % 64) (by omega);have e3:=oN8 (128+c % 64) (by omega);have hn:(240+c / 262144) % 8*262144+(128+c / 4096 % 64) % 64*4096+(128+c / 64 % 64) % 64*64+(128+c % 64) % 64=c:=by omega
  unfold Utf8.decode;simp only [g0,g1,g2,g3,e0,e1,e2,e3];rw [if_neg (by omega),if_neg (by simp;omega),if_neg (by simp;omega),if_pos (by simp [s1,s2,s3];omega),hn,if_pos (by simp [Utf8.valid];omega)];simp
theorem qo {c:Nat} (hc:eC (c:Int)=true):Utf8.encode (c:Int)=⟨(ai c).toArray⟩:=by
 have hle:=(d8 c).1 hc;have hv:Utf8.valid (c:Int)=true:=by simp [Utf8.valid];omega
 unfold Utf8.encode ai;simp only [hv,if_true,Int.toNat_natCast];by_cases h1:c<128
 ·rw [if_pos h1,if_pos h1]
 rw [if_neg h1,if_neg h1];by_cases h2:c<2048
 ·rw [if_pos h2,if_pos h2]
 rw [if_neg h2,if_neg h2];by_cases h3:c<65536
 ·rw [if_pos h3,if_pos h3]
 ·rw [if_neg h3,if_neg h3]
end Go.Proofs.YtgolomgmnanbpaaGreatDoor
namespace Go.Proofs.YtgolomgmnanbpaaGreatDoor
open Go.RowKit
variable {l:List UInt8}
theorem pk {c s:Nat} (h:kp c=some s):(s=34∨s=92∨s=98∨s=102∨s=110∨s=114∨s=116)/\bt s=some c/\c<128:=by
 unfold kp at h
 repeat' split at h
 all_goals first
  | (simp only [Option.some.injEq] at h;subst h;subst_vars;exact ⟨by decide,by decide,by decide⟩)
  | cases h
theorem sJ:∀ (f n:Nat),n<f->mr f n≠[]
 | 0,_,h=>by omega
 | f+1,n,h=>by unfold mr;split<;>simp
theorem jm (n:Nat):eA n≠[]:=sJ _ _ (by omega)
end Go.Proofs.YtgolomgmnanbpaaGreatDoor
namespace Go.Proofs.YtgolomgmnanbpaaGreatDoor
section
open Go.RowKit Go.Shelf
attribute [local go_sem] aa ac ae ab Oper.semAt_some
mutual
def cI:Nat->JV->List (Nat × JV) | lv,.mk k n s kids keys=>(lv,.mk k n s kids keys)::bm (lv+1) kids
def bm:Nat->List JV->List (Nat × JV) | _,[]=>[] | lv,x::r=>cI lv x++bm lv r
end
theorem ii (lv:Nat):∀ xs ys:List JV,bm lv (xs++ys)=bm lv xs++bm lv ys
 | [],ys=>by simp [bm]
 | x::r,ys=>by rw [List.cons_append,bm,bm,ii lv r ys,List.append_assoc]
mutual
theorem iq:∀ (lv:Nat) (v:JV),(cI lv v).length=ar v
 | lv,.mk k n s kids keys=>by rw [cI,ar,List.length_cons,kT (lv+1) kids];omega
theorem kT:∀ (lv:Nat) (xs:List JV),(bm lv xs).length=ay xs
 | lv,[]=>by rw [bm,ay];rfl
 | lv,x::r=>by rw [bm,ay,List.length_append,iq lv x,kT lv r]
end
theorem rO {lv:Nat} {xs:List JV} {i:Nat} {x:JV} (h:xs[i]? = some x):bm lv (xs.take (i+1))=bm lv (xs.take i)++cI lv x/\bm lv xs=bm lv (xs.take i)++(cI lv x++bm lv (xs.drop (i+1))):=by
 have e:bm lv (xs.take (i+1))=bm lv (xs.take i)++cI lv x:=by rw [List.take_add_one,h,ii];show _++bm lv [x]=_;rw [bm,bm,List.append_nil]
 refine ⟨e,?_⟩;have h2:=ii lv (xs.take (i+1)) (xs.drop (i+1));rw [List.take_append_drop,e,List.append_assoc] at h2;exact h2
abbrev dJ:=Nat × JV × Array Value
def dk (x:dJ):Nat × JV:=(x.1,x.2.1)
def tD (x:dJ):Array Value:=#[Zi Zq x.1,.agg x.2.2]
def fh:Nat->Prop:=λ _=>True
def KpC (C:Nat->Prop) (N:Nat) (A B:World):Prop:=A.heap.size<=B.heap.size/\∀ k,k<A.heap.size->¬ C k->(k<N∨∃ t cs,Blk A k t cs)->B.heap[k]? = A.heap[k]?
theorem KpC.trans {C:Nat->Prop} {N:Nat} {A B D:World} (h:KpC C N A B) (k:KpC C N B D):KpC C N A D:=by
 refine ⟨Nat.le_trans h.1 k.1,λ j hj hc hb=>?_⟩;have h1:=h.2 j hj hc hb;refine (k.2 j (Nat.lt_of_lt_of_le hj h.1) hc ?_).trans h1;rcases hb with hb | ⟨t,cs,hb⟩
 ·exact .inl hb
 ·exact .inr ⟨t,cs,h1.trans hb⟩
theorem KpC.of_below {C:Nat->Prop} {N:Nat} {A B:World} (h:Below A.heap.size A B):KpC C N A B:=⟨h.size,λ k hk _ _=>h.block k hk⟩
theorem KpC.refl (C:Nat->Prop) (N:Nat) (A:World):KpC C N A A:=⟨Nat.le_refl _,λ _ _ _ _=>rfl⟩
theorem KpC.blk {C:Nat->Prop} {N:Nat} {A B:World} {g:Nat} {t:TypeId} {cs:Array Value} (h:KpC C N A B) (hb:Blk A g t cs) (hg:¬ C g):Blk B g t cs:=(h.2 g hb.lt hg (.inr ⟨t,cs,hb⟩)).trans hb
theorem KpC.keepF {C:Nat->Prop} {w0 A B:World} (h:KpC C w0.heap.size A B) (hk:af fh w0 A) (hC:∀ k,C k->w0.heap.size<=k):af fh w0 B :=
 ⟨Nat.le_trans hk.1 h.1,λ b _ hb=>(h.2 b (Nat.lt_of_lt_of_le hb hk.1) (λ hc=>by have:=hC b hc;omega) (.inl hb)).trans (hk.2 b trivial hb)⟩
theorem KpC.set {C:Nat->Prop} {N:Nat} {A B:World} (h:KpC C N A B) {k:Nat} (hk:C k) (i:Nat) (u:Value):KpC C N A (B.setCell ⟨k,i,none⟩ u) :=
 ⟨by simpa using h.1,λ b hb hc hx=>(Below.heap_setCell B ⟨k,i,none⟩ u b (λ e=>hc (by have e:b=k:=e;rw [e];exact hk))).trans (h.2 b hb hc hx)⟩
theorem oX {W:World} {css:List (List Value)} {xs:List JV} {A:Option Addr} (h:VRs W fh css xs) (hr:RdF W fh A css.flatten) {i:Nat} {x:JV} (hx:xs[i]? = some x) :
  ∃ (b o:Nat) (k n:Int) (s:ByteArray) (A':Option Addr) (na ca:Nat) (B':Option Addr) (nb cb:Nat),A=some ⟨b,o,none⟩/\b<W.heap.size/\VR W fh [Zi Zq k,Zi Zq n,Zt s,Zs A' na ca,Zs B' nb cb] x /\
   ∀ W',af fh W W'->W'.cell? ⟨b,o+i*5,none⟩=some (Zi Zq k)/\W'.cell? ⟨b,o+i*5+1,none⟩=some (Zi Zq n)/\W'.cell? ⟨b,o+i*5+2,none⟩=some (Zt s)/\W'.cell? ⟨b,o+i*5+3,none⟩=some (Zs A' na ca)/\W'.cell? ⟨b,o+i*5+4,none⟩=some (Zs B' nb cb):=by
 obtain ⟨b,o,c,rfl,hb,_,hv,hc⟩:=h.cell hr hx;obtain ⟨k,n,s,A',na,ca,B',nb,cb,rfl⟩:=hv.form;refine ⟨b,o,k,n,s,A',na,ca,B',nb,cb,rfl,hb,hv,λ W' hW=>?_⟩;have z:=λ (j:Nat) u (hj:j<5) hu=>(World.cell?_of_block (w:=W) (a:=⟨b,o+(i*5+j),none⟩) (hW.2 b trivial hb)).trans (hc j u hj hu)
 exact ⟨z 0 _ (by decide) rfl,z 1 _ (by decide) rfl,z 2 _ (by decide) rfl,z 3 _ (by decide) rfl,z 4 _ (by decide) rfl⟩
def wj (w0:World) (v0:JV) (pre:List dJ) (x:dJ):Prop:=VR w0 fh x.2.2.toList x.2.1/\(pre++[x]).map dk <+: cI 0 v0
def YN (l:Nat) (w0:World) (C:Nat->Prop) (v0:JV) (J Jx:List dJ->World->Prop):Prop:=∀ pre x W1,J pre W1->wj w0 v0 pre x->YieldAt Fence.wide 1 Tryz.prog l (tD x) W1 λ e W' =>
 (e=.returned (.bool true)/\J (pre++[x]) W'/\KpC C w0.heap.size W1 W')∨(e=.returned (.bool false)/\Jx (pre++[x]) W'/\KpC C w0.heap.size W1 W')
def rG (w0:World) (C:Nat->Prop) (J Jx:List dJ->World->Prop) (lv:Nat) (v:JV) (pre:List dJ) (W:World) (e:Ending) (W':World):Prop :=
 (e=.returned (.bool true)/\∃ ys,ys.map dk=cI lv v/\J (pre++ys) W'/\KpC C w0.heap.size W W')∨(e=.returned (.bool false)/\∃ ys,Jx ys W')
abbrev qX (yb ib:Nat):Value:=.func (.func 175) #[] #[Zp (some ⟨yb,0,none⟩),Zp (some ⟨ib,0,none⟩)]
theorem mX (l:Nat) (w0:World) (C:Nat->Prop) (NC:Nat) (v0:JV) (J Jx:List dJ->World->Prop) (yb ib:Nat) (hC0:∀ k,C k->w0.heap.size<=k) (hCN:∀ k,C k->k<NC) (hyC:¬ C yb) (hiC:¬ C ib)
  (hJ:∀ s A B,Below A.heap.size A B->J s A->J s B) (hY:YN l w0 C v0 J Jx):∀ (M:Nat) (v:JV),ar v<=M->∀ (lv:Nat) (pre:List dJ) (rest:List (Nat × JV)) (cs:List Value) (W:World),
  VR w0 fh cs v->af fh w0 W->J pre W->Blk W yb 199 #[.func (.yield l) #[] #[]]->Blk W ib 199 #[qX yb ib]->cI 0 v0=pre.map dk++(cI lv v++rest)->lv+ar v<=4194304->NC<=W.heap.size ->
  Calls Tryz.prog 175 #[Zi Zq lv,.agg cs.toArray,Zp (some ⟨yb,0,none⟩),Zp (some ⟨ib,0,none⟩)] W (rG w0 C J Jx lv v pre W)
 | 0,v,h,_,_,_,_,_,_,_,_,_,_,_,_,_=>by have:=bj v;omega
 |M+1,.mk k n s kids keys,hM,lv,pre,rest,cs,W,hv,hK,hJ0,hyb,hib,hfl,hlv,hNC=>by
  have ih:=mX l w0 C NC v0 J Jx yb ib hC0 hCN hyC hiC hJ hY M;obtain ⟨A,B,ca,cb,css,rfl,h1,h2,h3,h4,h5,h6,h7⟩:=hv.out;have HIH:=aW (λ (i:Nat) (x:JV) (hx:kids[i]? = some x)=>oX h1 h6 hx);unfold ar at hM hlv;have hkl:=ke kids;have hfl2:cI 0 v0=pre.map dk++((lv,JV.mk k n s kids keys)::bm (lv+1) kids++rest):=hfl;obtain ⟨nk,hnk⟩:∃ nk,kids.length=nk:=⟨_,rfl⟩
  obtain ⟨ny,hny⟩:∃ ny,keys.length=ny:=⟨_,rfl⟩
  rw [hnk] at h2 hkl hv;rw [hny] at h3 hv;rw [hnk,hny];have hb1:=(Below.refl W.heap.size W).alloc (Nat.le_refl _) (.cells #[Zi Zq k,Zi Zq n,Zt ⟨s.toArray⟩,Zs A nk ca,Zs B ny cb] 25);obtain ⟨fn,tmps,assign,body,hy,hR⟩:=hY pre (lv,.mk k n s kids keys,#[Zi Zq k,Zi Zq n,Zt ⟨s.toArray⟩,Zs A nk ca,Zs B ny cb]) _ (hJ _ _ _ hb1 hJ0)
   ⟨hv,by rw [hfl2,List.map_append];exact ⟨bm (lv+1) kids++rest,by simp [dk]⟩⟩
  unfold tD at hy;simp only at hy;have hbk:=Blk.new W 25 #[Zi Zq k,Zi Zq n,Zt ⟨s.toArray⟩,Zs A nk ca,Zs B ny cb];have hgC:¬ C W.heap.size:=λ h=>by have:=hCN _ h;omega
  have HKB:=aW hb1;have HBK:=aW hbk;have HI:=aW ih;have HJ:=aW hJ;have HK:=aW hK;have HYB:=aW hyb;have HIB:=aW hib;have HFL:=aW hfl2;have HNK:=aW hnk;have HC0:=aW hC0;obtain ⟨a1,b1,d1⟩:=(hyb.alloc (.cells #[Zi Zq k,Zi Zq n,Zt ⟨s.toArray⟩,Zs A nk ca,Zs B ny cb] 25)).rules;clear hv hK hyb hib hfl hfl2 h1 h4 h5 h6 h7 hbk hb1 ih hJ hY hJ0 hnk hny hC0 hCN;refine (callsIn_wide (n:=2)).1 ?_;refine callsIn_of_wp Tryz.func175 rfl trivial ?_ rfl;simp only [Tryz.ntmps175,List.size_toArray,List.length_cons,List.length_nil,Nat.reduceAdd,Nat.reduceSub,Array.replicate_succ,Array.replicate_zero,List.push_toArray,List.append_toArray,List.nil_append,List.cons_append];gi_wp2;refine hR.mono ?_;rintro e W3 (⟨rfl,hJ3,hk3⟩ | ⟨rfl,hJx3,hk3⟩)
  ·have hk1:KpC C w0.heap.size W W3:=(KpC.of_below HKB.out).trans hk3;obtain ⟨c1,f1,l1⟩:=(hk3.blk HBK.out hgC).rules;have z3:=c1 3;simp at z3;have HK1:=aW hk1;have HJ3:=aW hJ3;clear hk1 hk3 hJ3 hR hy a1 b1 d1;gi_wp2;clear c1 f1 l1 z3
   gi_loopg [17] nk (λ gk s17 wr => ∃ (i:Nat) (ys:List dJ),i<=nk/\gk=nk-i/\s17=Zi Zq i/\Hid (ys.map dk=(lv,.mk k n s kids keys)::bm (lv+1) (kids.take i))/\Hid (J (pre++ys) wr)/\Hid (KpC C w0.heap.size W wr))
   case atStart=>exact ⟨0,[(lv,.mk k n s kids keys,#[Zi Zq k,Zi Zq n,Zt ⟨s.toArray⟩,Zs A nk ca,Zs B ny cb])],Nat.zero_le _,rfl,by go_num,aW (by simp [dk,bm]),HJ3,HK1⟩
   case round =>
    obtain ⟨i,ys,hi,hgk,rfl,HYS,HJw,HKw⟩:=hrel;have HG:=aW hgk;clear hgk HK1 HJ3;by_cases hlt:i<nk
    ·obtain ⟨x,hx⟩:∃ x,kids[i]? = some x:=⟨_,List.getElem?_eq_getElem (by rw [HNK.out];exact hlt)⟩
     obtain ⟨b,o,k',n',s',A',na,ca',B',nb,cb',rfl,hb,hvx,hz⟩:=HIH.out i x hx;have hKF:=HKw.out.keepF HK.out HC0.out;obtain ⟨q0,q1,q2,q3,q4⟩:=hz _ hKF;have hyw:=HKw.out.blk HYB.out hyC;have hiw:=HKw.out.blk HIB.out hiC;obtain ⟨hf1,hf2⟩:=rO (lv:=lv+1) hx;obtain ⟨hn1,hn2⟩:=bO hx;have hbA:=(Below.refl wr.heap.size wr).alloc (Nat.le_refl _) (.cells #[Zi Zq k',Zi Zq n',Zt s',Zs A' na ca',Zs B' nb cb'] 25);have hcl:=HI.out x (by omega) (lv+1) (pre++ys) (bm (lv+1) (kids.drop (i+1))++rest) _ _ hvx (hKF.bel hbA) (HJ.out _ _ _ hbA HJw.out) (hyw.alloc _) (hiw.alloc _)
      (by rw [HFL.out,List.map_append,HYS.out,hf2];simp) (by omega) (by have:=HKw.out.1;simp;omega)
     rw [show ((lv+1:Nat):Int)=(lv:Int)+1 by omega] at hcl;have HCL:=aW hcl;have HF1:=aW hf1;have HKA:=aW (HKw.out.trans (KpC.of_below hbA));obtain ⟨d1,d2,d3⟩:=(hyw.alloc (.cells #[Zi Zq k',Zi Zq n',Zt s',Zs A' na ca',Zs B' nb cb'] 25)).rules;obtain ⟨e1,e2,e3⟩:=(hiw.alloc (.cells #[Zi Zq k',Zi Zq n',Zt s',Zs A' na ca',Zs B' nb cb'] 25)).rules;clear hcl hf1 hf2 hn1 hn2 hbA hz hvx hx hKF hyw hiw;gi_wp2;refine ⟨trivial,CallsIn.mono (callsIn_wide.2 HCL.out) ?_⟩;rintro e W5 (⟨rfl,zs,hzs,hJ5,hk5⟩ | ⟨rfl,zs,hJx5⟩)
     ·have HJ5:=aW hJ5;have HK5:=aW (HKA.out.trans hk5);have HZ:=aW hzs;clear hJ5 hk5 hzs;gi_wp2
      gi_roundg (nk-(i+1))
      case measure=>rw [HG.out];omega
      case rel=>exact ⟨i+1,ys++zs,hlt,rfl,by go_num,aW (by rw [List.map_append,HYS.out,HZ.out,HF1.out];simp),aW (by rw [← List.append_assoc];exact HJ5.out),HK5⟩
     ·gi_wp2;go_ret;exact .inr ⟨rfl,zs,hJx5⟩
    ·obtain rfl:i=nk:=by omega
     gi_wp2;go_ret;refine .inl ⟨rfl,ys,?_,HJw.out,HKw.out⟩;have h:=HYS.out;rw [List.take_of_length_le (by rw [HNK.out];exact Nat.le_refl _)] at h;exact h
  ·have HJX:=aW hJx3;clear hJx3 hk3 hR hy a1 b1 d1;gi_wp2;go_ret;exact .inr ⟨rfl,_,HJX.out⟩
theorem sO (k n:Int) (s:ByteArray) (A B:Option Addr) (nk ca ny cb:Nat) (w:World) :
  Calls Tryz.prog 145 #[.agg #[Zi Zq k,Zi Zq n,Zt s,Zs A nk ca,Zs B ny cb]] w λ e w'=>e=.returned (.func (.func 174) #[] #[Zp (some ⟨w.heap.size,0,none⟩)])/\w.alloc (.cells #[Zi Zq k,Zi Zq n,Zt s,Zs A nk ca,Zs B ny cb] 25)=w':=by
 have hmf:∀ (fn:Fn) (first cap:Array Value) (w:World),(Instr.makeFunc fn first cap).run Tryz.prog w=.ok (.func fn first cap) w:=λ _ _ _ _=>rfl
 go_enter Tryz.func145,Tryz.ntmps145;go_wp2;go_ret;exact ⟨rfl,rfl⟩
theorem ry (l:Nat) (w0:World) (C:Nat->Prop) (NC:Nat) (v0:JV) (J Jx:List dJ->World->Prop) (hC0:∀ k,C k->w0.heap.size<=k) (hCN:∀ k,C k->k<NC)
  (hJ:∀ s A B,Below A.heap.size A B->J s A->J s B) (hY:YN l w0 C v0 J Jx) (vb:Nat) (cs:List Value) (W:World) (hv:VR w0 fh cs v0) (hK:af fh w0 W) (hvb:Blk W vb 25 cs.toArray) (hJ0:J [] W) (hn:ar v0<=4194304) (hNC:NC<=W.heap.size) :
  CallsIn Fence.wide 2 Tryz.prog 174 #[.func (.yield l) #[] #[],Zp (some ⟨vb,0,none⟩)] W λ e W'=>(∃ v,e=.returned v)/\((∃ xs,xs.map dk=cI 0 v0/\J xs W')∨(∃ pre,True/\Jx pre W')):=by
 have hmf:∀ (fn:Fn) (first cap:Array Value) (w:World),(Instr.makeFunc fn first cap).run Tryz.prog w=.ok (.func fn first cap) w:=λ _ _ _ _=>rfl
 have hb2:Below W.heap.size W ((W.alloc (.cells #[.func (.yield l) #[] #[]] 199)).alloc (.cells #[qX W.heap.size (W.heap.size+1)] 199)):=((Below.refl _ W).alloc (Nat.le_refl _) _).alloc (by simp) _;have hib:=Blk.new (W.alloc (.cells #[.func (.yield l) #[] #[]] 199)) 199 #[qX W.heap.size (W.heap.size+1)];rw [World.size_alloc] at hib;have hcl:=mX l w0 C NC v0 J Jx W.heap.size (W.heap.size+1) hC0 hCN (λ h=>by have:=hCN _ h;omega) (λ h=>by have:=hCN _ h;omega) hJ hY _ v0 (Nat.le_refl _) 0 [] [] cs _ hv (hK.bel hb2) (hJ _ _ _ hb2 hJ0)
  ((Blk.new W 199 #[.func (.yield l) #[] #[]]).alloc _) hib (by simp) (by omega) (by simp;omega)
 rw [show ((0:Nat):Int)=0 from rfl] at hcl;obtain ⟨k,n,s,A,na,ca,B,nb,cb,rfl⟩:=hv.form;have HCL:=aW hcl;obtain ⟨c1,f1,l1⟩:=(hvb.keep hb2).rules;obtain ⟨d1,d2,d3⟩:=hvb.rules;clear hcl hib hb2 hvb hY hJ hK hv hJ0;refine callsIn_of_wp Tryz.func174 rfl trivial ?_ rfl;simp only [Tryz.ntmps174,List.size_toArray,List.length_cons,List.length_nil,Nat.reduceAdd,Nat.reduceSub,Array.replicate_succ,Array.replicate_zero,List.push_toArray,List.append_toArray,List.nil_append,List.cons_append];gi_wp2;refine ⟨trivial,CallsIn.mono (callsIn_wide.2 HCL.out) ?_⟩;rintro e W5 (⟨rfl,ys,hys,hJ5,_⟩ | ⟨rfl,ys,hJx⟩)
 ·gi_wp2;go_end0;exact ⟨⟨_,rfl⟩,.inl ⟨ys,hys,hJ5⟩⟩
 ·gi_wp2;go_end0;exact ⟨⟨_,rfl⟩,.inr ⟨ys,trivial,hJx⟩⟩
end
end Go.Proofs.YtgolomgmnanbpaaGreatDoor
