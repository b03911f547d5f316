import Derived.Test.YtgmnmnnoahdjnaaGreatDoorB12
set_option maxRecDepth 100000
set_option maxHeartbeats 16000000
set_option linter.unusedVariables false
set_option linter.unusedSimpArgs false
namespace Go.Proofs.YtgmnmnnoahdjnaaGreatDoor
open Go.RowKit
theorem mJ (ds:List UInt8) (c:UInt8):ez (ds++[c])=10*ez ds+fS c:=by simp [ez]
theorem mQ:∀ (ds pre:List UInt8) (s:NSt),(∀ c ∈ ds,aR c=true)→((s.over=true∧18446744073709551615<ez pre)∨(s.over=false∧s.size=ez pre∧ez pre≤18446744073709551615)) →
  (((cg ds s).over=true∧18446744073709551615<ez (pre++ds))∨((cg ds s).over=false∧(cg ds s).size=ez (pre++ds)∧ez (pre++ds)≤18446744073709551615))
 | [],pre,s,_,h=>by simpa [cg] using h
 |c::ds,pre,s,hd,h=>by
  have hc:48≤c.toNat∧c.toNat≤57:=of_decide_eq_true (hd c List.mem_cons_self);have ih:=mQ ds (pre++[c]) (fX (fS c) s) (fun x hx=>hd x (List.mem_cons_of_mem _ hx));rw [List.append_assoc,List.singleton_append] at ih;refine ih ?_;rw [mJ];have hv:fS c≤9:=by unfold fS;omega
  unfold fX;simp only;rcases h with ⟨h1,h2⟩ | ⟨h1,h2,h3⟩
  ·left;rw [h1];exact ⟨rfl,by omega⟩
  ·rw [h1,h2];by_cases ho:(18446744073709551615-fS c) / 10<ez pre
   ·left;rw [decide_eq_true ho];exact ⟨rfl,by omega⟩
   ·right;rw [decide_eq_false ho];refine ⟨rfl,Nat.mod_eq_of_lt (by omega),by omega⟩
theorem jw (ds:List UInt8) (s:NSt):(cg ds s).part=s.part∧(cg ds s).minus=s.minus:=⟨(gt ds s).2.2,(gt ds s).2.1⟩
end Go.Proofs.YtgmnmnnoahdjnaaGreatDoor
namespace Go.Proofs.YtgmnmnnoahdjnaaGreatDoor
open Go.RowKit
def iM:Nat→Nat→List UInt8
 | 0,_=>[]
 | f+1,n=>if n<10 then [UInt8.ofNat (48+n)] else iM f (n / 10)++[UInt8.ofNat (48+n % 10)]
def dc (n:Nat):List UInt8:=iM (n+1) n
theorem mY:∀ (f g n:Nat),n<f→n<g→iM f n=iM g n
 | 0,_,_,h,_=>by omega
 | _+1,0,_,_,h=>by omega
 |f+1,g+1,n,h,h'=>by
  unfold iM;split
  ·rfl
  ·rw [mY f g (n / 10) (by omega) (by omega)]
theorem jc {n:Nat} (h:n<10):dc n=[UInt8.ofNat (48+n)]:=by unfold dc iM;rw [if_pos h]
theorem mW {n:Nat} (h:10≤n):dc n=dc (n / 10)++[UInt8.ofNat (48+n % 10)]:=by
 unfold dc;rw [iM,if_neg (by omega),mY n (n / 10+1) (n / 10) (by omega) (by omega)]
def dV (n:Int):List UInt8:=if n<0 then 45::dc n.natAbs else dc n.natAbs
def kj (c:Nat):Option Nat :=
 if c=34 then some 34 else if c=92 then some 92 else if c=8 then some 98 else if c=12 then some 102 else if c=10 then some 110 else if c=13 then some 114 else if c=9 then some 116 else none
def qC (n:Nat):Nat:=if n<10 then 48+n else 87+n
def aP (c:Nat):List UInt8 :=
 match kj c with
 | some s=>[92,UInt8.ofNat s]
 | none=>if c<32 then [92,117,48,48,UInt8.ofNat (48+c / 16),UInt8.ofNat (qC (c % 16))] else ag c
def ld:Nat→List UInt8→List Nat
 | _,[]=>[]
 | 0,_::_=>[]
 | f+1,c::r=>if (au (c::r)).2=0 then [] else (au (c::r)).1::ld f ((c::r).drop (au (c::r)).2)
def eX (l:List UInt8):List Nat:=ld l.length l
def ie (l:List UInt8):List UInt8:=34::(eX l).flatMap aP++[34]
theorem mI:∀ (f g:Nat) (l:List UInt8),l.length≤f→l.length≤g→ld f l=ld g l
 | f,g,[],_,_=>by cases f<;>cases g<;>rfl
 | 0,_,_::_,h,_=>by simp at h
 | _+1,0,_::_,_,h=>by simp at h
 |f+1,g+1,c::r,h,h'=>by
  unfold ld;split
  ·rfl
  ·rename_i hn
   rw [mI f g _ ?_ ?_] <;> · rw [List.length_drop,List.length_cons] at *;omega
theorem sc:eX []=[]:=rfl
theorem qq {l:List UInt8} (h:l≠[]):eX l=if (au l).2=0 then [] else (au l).1::eX (l.drop (au l).2):=by
 cases l with
 | nil=>exact absurd rfl h
 |cons c r =>
  show ld (r.length+1) (c::r)=_
  unfold ld;split
  ·rfl
  ·rename_i hn
   rw [eX,mI _ _ _ ?_ (Nat.le_refl _)];rw [List.length_drop,List.length_cons];omega
theorem ir {l:List UInt8} {n:Nat} (h:cd l n=true):gW (bt l n:Int)=true∧l.take n=ag (bt l n):=by
 have h1:=(ep _ _).1 h;exact ⟨(fa _).2 h1.2.1,h1.2.2.symm⟩
theorem nO {l:List UInt8} (h:(au l).2≠0):gW ((au l).1:Int)=true∧l.take (au l).2=ag (au l).1:=by
 by_cases h1:cd l 1=true
 ·rw [kM h1];exact ir h1
 ·have f1:cd l 1=false:=by simpa using h1
  by_cases h2:cd l 2=true
  ·rw [nK f1 h2];exact ir h2
  ·have f2:cd l 2=false:=by simpa using h2
   by_cases h3:cd l 3=true
   ·rw [nL f1 f2 h3];exact ir h3
   ·have f3:cd l 3=false:=by simpa using h3
    by_cases h4:cd l 4=true
    ·rw [nM f1 f2 f3 h4];exact ir h4
    ·rw [dM f1 f2 f3 (by simpa using h4)] at h;exact absurd rfl h
theorem pZ:∀ (f:Nat) (l:List UInt8),l.length≤f→cR l=true→(∀ c ∈ eX l,gW (c:Int)=true)∧l=(eX l).flatMap ag
 | _,[],_,_=>⟨by simp [sc],rfl⟩
 | 0,_::_,h,_=>by simp at h
 |f+1,c::r,h,ht=>by
  have hne:c::r≠[]:=by simp
  rw [jj hne] at ht;by_cases h0:(au (c::r)).2=0
  ·rw [if_pos h0] at ht;cases ht
  ·rw [if_neg h0] at ht;obtain ⟨h1,h2⟩:=pZ f _ (by rw [List.length_drop,List.length_cons];rw [List.length_cons] at h;omega) ht;obtain ⟨k1,k2⟩:=nO h0;rw [qq hne,if_neg h0];refine ⟨fun x hx=>?_,?_⟩
   ·rcases List.mem_cons.1 hx with rfl | hx
    ·exact k1
    ·exact h1 x hx
   ·rw [List.flatMap_cons,← k2,← h2,List.take_append_drop]
theorem kz {l:List UInt8} (h:cR l=true):(∀ c ∈ eX l,gW (c:Int)=true)∧l=(eX l).flatMap ag:=pZ _ l (Nat.le_refl _) h
end Go.Proofs.YtgmnmnnoahdjnaaGreatDoor
namespace Go.Proofs.YtgmnmnnoahdjnaaGreatDoor
open Go.RowKit
theorem fE {s:ByteArray} {p k:Nat} {b:UInt8} {u:List UInt8} (h:s.data.toList.drop p=u) (hb:u[k]? = some b):s.get! (p+k)=b∧p+k<s.size:=by
 have h1:s.data.toList[p+k]? = some b:=by rw [← hb,← h,List.getElem?_drop]
 obtain ⟨hlt,he⟩:=List.getElem?_eq_some_iff.1 h1;have hs:p+k<s.size:=by rw [Array.length_toList] at hlt;exact hlt
 refine ⟨?_,hs⟩;show s.get! (p+k)=b
 have:s.get! (p+k)=s[p+k]:=by
  simp [ByteArray.get!,getElem!_pos,hs];rfl
 rw [this,← he];rfl
theorem sd {s:ByteArray} {p c:Nat} {r:List UInt8} (hc:gW (c:Int)=true) (h:s.data.toList.drop p=ag c++r):Utf8.decode s p=(c,(ag c).length):=by
 have hle:=(fa c).1 hc;unfold ag at h ⊢;by_cases h1:c<128
 ·rw [if_pos h1] at h ⊢;obtain ⟨g0,s0⟩:=fE (k:=0) h (by rfl);have e0:=oN8 c (by omega);unfold Utf8.decode;simp only [g0,e0];rw [if_pos h1];rfl
 rw [if_neg h1] at h ⊢;by_cases h2:c<2048
 ·rw [if_pos h2] at h ⊢;obtain ⟨g0,s0⟩:=fE (k:=0) h (by rfl);obtain ⟨g1,s1⟩:=fE (k:=1) h (by rfl);have e0:=oN8 (192+c / 64) (by omega);have e1:=oN8 (128+c % 64) (by omega);unfold Utf8.decode;simp only [g0,g1,e0,e1];rw [if_neg (by omega),if_pos (by simp [s1];omega),if_pos (by omega)];simp;omega
 rw [if_neg h2] at h ⊢;by_cases h3:c<65536
 ·rw [if_pos h3] at h ⊢;obtain ⟨g0,s0⟩:=fE (k:=0) h (by rfl);obtain ⟨g1,s1⟩:=fE (k:=1) h (by rfl);obtain ⟨g2,s2⟩:=fE (k:=2) h (by rfl);have e0:=oN8 (224+c / 4096) (by omega);have e1:=oN8 (128+c / 64 % 64) (by omega);have e2:=oN8 (128+c % 64) (by omega);have hn:(224+c / 4096) % 16*4096+(128+c / 64 % 64) % 64*64+(128+c % 64) % 64=c:=by omega
  unfold Utf8.decode;simp only [g0,g1,g2,e0,e1,e2];rw [if_neg (by omega),if_neg (by simp;omega),if_pos (by simp [s1,s2];omega),hn,if_pos (by simp [Utf8.valid];omega)];simp
 ·rw [if_neg h3] at h ⊢;obtain ⟨g0,s0⟩:=fE (k:=0) h (by rfl);obtain ⟨g1,s1⟩:=fE (k:=1) h (by rfl);obtain ⟨g2,s2⟩:=fE (k:=2) h (by rfl);obtain ⟨g3,s3⟩:=fE (k:=3) h (by rfl);have e0:=oN8 (240+c / 262144) (by omega);have e1:=oN8 (128+c / 4096 % 64) (by omega);have e2:=oN8 (128+c / 64 % 64) (by omega);have e3:=oN8 (128+c % 64) (by omega);have hn:(240+c / 262144) % 8*262144+(128+c / 4096 % 64) % 64*4096+(128+c / 64 % 64) % 64*64+(128+c % 64) % 64=c:=by omega
  unfold Utf8.decode;simp only [g0,g1,g2,g3,e0,e1,e2,e3];rw [if_neg (by omega),if_neg (by simp;omega),if_neg (by simp;omega),if_pos (by simp [s1,s2,s3];omega),hn,if_pos (by simp [Utf8.valid];omega)];simp
theorem sf {c:Nat} (hc:gW (c:Int)=true):Utf8.encode (c:Int)=⟨(ag c).toArray⟩:=by
 have hle:=(fa c).1 hc;have hv:Utf8.valid (c:Int)=true:=by simp [Utf8.valid];omega
 unfold Utf8.encode ag;simp only [hv,if_true,Int.toNat_natCast];by_cases h1:c<128
 ·rw [if_pos h1,if_pos h1]
 rw [if_neg h1,if_neg h1];by_cases h2:c<2048
 ·rw [if_pos h2,if_pos h2]
 rw [if_neg h2,if_neg h2];by_cases h3:c<65536
 ·rw [if_pos h3,if_pos h3]
 ·rw [if_neg h3,if_neg h3]
end Go.Proofs.YtgmnmnnoahdjnaaGreatDoor
namespace Go.Proofs.YtgmnmnnoahdjnaaGreatDoor
open Go.RowKit
variable {l:List UInt8}
theorem xe {p:Nat} {u:List UInt8} (h:l.drop p=u) (hp:p≤l.length):l.length=p+u.length:=by
 have:=congrArg List.length h;rw [List.length_drop] at this;omega
theorem oZ {p:Nat} {u:List UInt8} (h:l.drop p=u) (hu:u≠[]):p<l.length:=by
 rcases Nat.lt_or_ge p l.length with h1 | h1
 ·exact h1
 ·rw [List.drop_eq_nil_of_le h1] at h;exact absurd h.symm hu
theorem jS {p:Nat} {u:List UInt8} (h:l.drop p=u) (i:Nat):l[p+i]? = u[i]?:=by rw [← h,List.getElem?_drop]
theorem gq {p:Nat} {c:UInt8} {u:List UInt8} (h:l.drop p=c::u):l[p]? = some c:=by have:=jS h 0;simpa using this
theorem oY {p:Nat} {u v:List UInt8} (h:l.drop p=u++v):l.drop (p+u.length)=v:=by rw [← List.drop_drop,h,List.drop_left]
theorem qs {p:Nat} {c:UInt8} {v:List UInt8} (h:l.drop p=c::v):l.drop (p+1)=v:=oY (u:=[c]) h
theorem rx {c:Nat} (h:gW (c:Int)=true):c≤1114111∧¬ (55296≤c∧c≤57343):=(fa c).1 h
theorem vA {c:Nat} (h:gW (c:Int)=true):0<aT (c:Int):=by
 have h1:=rx h;have:=(bQ c (bH c)).1 rfl;have h3:aT (c:Int)=(bH c:Int):=(bq c _).2 rfl;omega
theorem qv {c s:Nat} (h:kj c=some s):(s=34∨s=92∨s=98∨s=102∨s=110∨s=114∨s=116)∧bj s=some c∧c<128:=by
 unfold kj at h
 repeat' split at h
 all_goals first
  | (simp only [Option.some.injEq] at h;subst h;subst_vars;exact ⟨by decide,by decide,by decide⟩)
  | cases h
theorem qu {c:Nat} (h:kj c=none):c≠34∧c≠92:=by
 unfold kj at h;refine ⟨fun e=>?_,fun e=>?_⟩ <;> · subst e;simp at h
theorem vG:∀ c,c<32→iZ [48,48,UInt8.ofNat (48+c / 16),UInt8.ofNat (qC (c % 16))] 0=some c:=by decide +kernel
theorem v6 {c p:Nat} {r:List UInt8} (hc:gW (c:Int)=true) (h:l.drop p=aP c++r):qsS l p=((c:Int),((p+(aP c).length:Nat):Int),0)∧1≤(aP c).length:=by
 unfold aP at h ⊢;cases he:kj c with
 |some s =>
  rw [he] at h;simp only [List.cons_append,List.nil_append] at h ⊢;obtain ⟨h1,h2,h3⟩:=qv he;have g0:l[p]? = some 92:=gq h;have g1:l[p+1]? = some (UInt8.ofNat s):=by have:=jS h 1;simpa using this
  have hs:(UInt8.ofNat s).toNat=s:=oN8 s (by omega);refine ⟨?_,by simp⟩;unfold qsS;rw [g0];simp only;rw [if_pos (by decide)];unfold kE;have hu:dB l p=none:=by
   unfold dB;rw [if_pos (.inr (.inr (by
    rw [g1];intro e;have:=congrArg (fun o=>(o.getD 0).toNat) e;simp only [Option.getD_some,hs] at this;have:s=117:=this;omega)))]
  rw [hu,g1];simp only;rw [hs,h2];simp
 |none =>
  rw [he] at h;simp only at h ⊢;obtain ⟨n1,n2⟩:=qu he;by_cases h32:c<32
  ·rw [if_pos h32] at h ⊢;refine ⟨?_,by simp⟩;simp only [List.cons_append,List.nil_append] at h;have g0:l[p]? = some 92:=gq h;have g1:l[p+1]? = some 117:=by have:=jS h 1;simpa using this
   have hp:=oZ h (by simp);have hlen:=xe h (by omega);simp only [List.length_cons] at hlen;unfold qsS;rw [g0];simp only;rw [if_pos (by decide)];unfold kE;have hu:dB l p=some c:=by
    unfold dB;rw [if_neg (by
     rintro (h1 | h1 | h1)
     ·omega
     ·exact h1 g0
     ·exact h1 g1)]
    have hd:l.drop (p+2)=48::48::UInt8.ofNat (48+c / 16)::UInt8.ofNat (qC (c % 16))::r:=by
     rw [← List.drop_drop,h];rfl
    rw [hd];exact vG c h32
   rw [hu];simp only;rw [if_pos (vA hc)];simp
  ·rw [if_neg h32] at h ⊢;obtain ⟨k1,k2,k3⟩:=dz c r hc;refine ⟨?_,k2⟩;have hne:ag c++r≠[]:=by intro e;have h:=congrArg List.length e;rw [List.length_append] at h;simp only [List.length_nil] at h;omega
   have hp:=oZ h hne;obtain ⟨b,u,hb⟩:=List.exists_cons_of_ne_nil hne;have g0:l[p]? = some b:=by rw [hb] at h;exact gq h
   have hb0:b.toNat≠92∧¬ (b.toNat<32∨b.toNat=34):=by
    have hle:=rx hc;unfold ag at hb;split at hb
    ·simp only [List.cons_append,List.cons.injEq] at hb;have:=oN8 c (by omega);rw [← hb.1,this];omega
    split at hb
    ·simp only [List.cons_append,List.cons.injEq] at hb;have:=oN8 (192+c / 64) (by omega);rw [← hb.1,this];omega
    split at hb
    ·simp only [List.cons_append,List.cons.injEq] at hb;have:=oN8 (224+c / 4096) (by omega);rw [← hb.1,this];omega
    ·simp only [List.cons_append,List.cons.injEq] at hb;have:=oN8 (240+c / 262144) (by omega);rw [← hb.1,this];omega
   unfold qsS;rw [g0];simp only;rw [if_neg hb0.1,if_neg hb0.2];unfold et;rw [if_neg (by omega),if_neg (by omega),Int.toNat_natCast,h,k1];simp only;rw [if_neg (by omega)];simp
theorem uH {p:Nat} (h:l[p]? = some 34):(qsS l p).2.2≠0:=by
 unfold qsS;rw [h];simp only;rw [if_neg (by decide),if_pos (.inr (by decide))];decide
theorem lX:∀ (cs:List Nat) (p:Nat) (r:List UInt8),(∀ c ∈ cs,gW (c:Int)=true)→l.drop p=cs.flatMap aP++34::r →
  bE (aQ l p)=cs.flatMap ag∧dW p (aQ l p)=p+(cs.flatMap aP).length
 |[],p,r,_,h=>by
  have g0:l[p]? = some 34:=gq h;rw [gz (fun _=>uH g0)];exact ⟨rfl,rfl⟩
 |c::cs,p,r,hc,h=>by
  rw [List.flatMap_cons,List.append_assoc] at h;obtain ⟨h1,h2⟩:=v6 (hc c List.mem_cons_self) h;have hne:aP c++(cs.flatMap aP++34::r)≠[]:=by intro e;have h:=congrArg List.length e;rw [List.length_append] at h;simp only [List.length_nil] at h;omega
  have hp:=oZ h hne;have h3:=oY h;obtain ⟨i1,i2⟩:=lX cs _ r (fun x hx=>hc x (List.mem_cons_of_mem _ hx)) h3;rw [fC h1 hp,sK];refine ⟨?_,?_⟩
  ·unfold bE at i1 ⊢;rw [List.flatMap_cons,i1,List.flatMap_cons];simp
  ·simp only [Int.toNat_natCast];rw [i2,List.flatMap_cons,List.length_append];omega
theorem uJ {s:List UInt8} {p:Nat} {r:List UInt8} (hs:cR s=true) (h:l.drop p=ie s++r):cc l (p:Int)=(s,((p+(ie s).length:Nat):Int),0):=by
 obtain ⟨h1,h2⟩:=kz hs;unfold ie at h ⊢;simp only [List.cons_append,List.append_assoc] at h;have g0:l[p]? = some 34:=gq h;have hp:=oZ h (by simp);have h3:=qs h;obtain ⟨i1,i2⟩:=lX (eX s) (p+1) r h1 h3;have h4:=oY h3;have g1:l[p+1+((eX s).flatMap aP).length]? = some 34:=gq h4;rw [uF hp,if_neg (by rw [g0];simp),i1,i2,if_pos g1,← h2];simp only [List.length_cons,List.length_append,List.cons_append,Prod.mk.injEq,true_and,and_true,List.length_nil];omega
theorem pt:∀ (f n:Nat),∀ c ∈ iM f n,aR c=true
 | 0,_,c,h=>by cases h
 |f+1,n,c,h=>by
  unfold iM at h;have key:∀ k,k<10→aR (UInt8.ofNat (48+k))=true:=by decide
  split at h
  ·rename_i h1
   rw [List.mem_singleton] at h;subst h;exact key n h1
  ·rcases List.mem_append.1 h with h | h
   ·exact pt f _ c h
   ·rw [List.mem_singleton] at h;subst h;exact key _ (by omega)
theorem jA (n:Nat):∀ c ∈ dc n,aR c=true:=pt _ _
theorem pu:∀ (f n:Nat),n<f→ez (iM f n)=n
 | 0,_,h=>by omega
 |f+1,n,h=>by
  unfold iM;have key:∀ k,k<10→fS (UInt8.ofNat (48+k))=k:=by decide
  split
  ·rename_i h1
   show 10*0+fS _=n
   rw [key n h1];omega
  ·rw [mJ,pu f _ (by omega),key _ (by omega)];omega
theorem ul (n:Nat):ez (dc n)=n:=pu _ _ (by omega)
theorem rF:∀ (f n:Nat),n<f→iM f n≠[]
 | 0,_,h=>by omega
 | f+1,n,h=>by unfold iM;split<;>simp
theorem eH (n:Nat):dc n≠[]:=rF _ _ (by omega)
theorem mX:∀ (f n:Nat),n<f→0<n→(iM f n).headD 0≠48
 | 0,_,h,_=>by omega
 |f+1,n,h,h0=>by
  unfold iM;have key:∀ k,k<10→0<k→UInt8.ofNat (48+k)≠48:=by decide
  split
  ·rename_i h1
   exact key n h1 h0
  ·have hne:=rF f (n / 10) (by omega);have:=mX f (n / 10) (by omega) (by omega);cases hx:iM f (n / 10) with
   | nil=>exact absurd hx hne
   | cons x r=>rw [hx] at this;exact this
def pP (r:List UInt8):Prop:=∀ c,r.head? = some c→aR c=false∧c≠46∧c≠101∧c≠69
theorem rS:∀ {ds r:List UInt8},(∀ c ∈ ds,aR c=true)→(∀ c,r.head? = some c→aR c=false)→(ds++r).takeWhile aR=ds
 | [],[],_,_=>rfl
 |[],c::r,_,h=>by
  rw [List.nil_append,List.takeWhile_cons,h c rfl];rfl
 |d::ds,r,h,h'=>by
  rw [List.cons_append,List.takeWhile_cons,h d List.mem_cons_self,if_pos rfl,rS (fun c hc=>h c (List.mem_cons_of_mem _ hc)) h']
def rL (c:Option UInt8) (x:List UInt8):Bool:=match c with | some b=>x.contains b | none=>false
theorem fB {p:Nat} {x:List UInt8} (c:Option UInt8) (h:l[p]? = c):bL l p x=rL c x:=by
 unfold bL rL;rw [h];cases c<;>rfl
theorem ni {p:Nat} {r:List UInt8} (h:l.drop p=r) (hr:pP r):bL l p [46]=false∧bL l p [101,69]=false:=by
 have e:l[p]? = r.head?:=by
  have:=jS h 0;rw [Nat.add_zero] at this;rw [this];cases r<;>rfl
 cases hh:r.head? with
 | none=>rw [hh] at e;exact ⟨by rw [fB _ e];rfl,by rw [fB _ e];rfl⟩
 |some c =>
  obtain ⟨_,h2,h3,h4⟩:=hr c hh;rw [hh] at e;refine ⟨?_,?_⟩
  ·rw [fB _ e];unfold rL;simpa using h2
  ·rw [fB _ e];unfold rL;simp;exact ⟨h3,h4⟩
theorem se {p:Nat} {ds r:List UInt8} (h:l.drop p=ds++r) (hd:∀ c ∈ ds,aR c=true) (hr:pP r):dZ l p=ds:=by
 unfold dZ;rw [h];exact rS hd (fun c hc=>(hr c hc).1)
theorem mt {p n:Nat} {r:List UInt8} {st:NSt} (h:l.drop p=dc n++r) (hr:pP r) (hp:st.pos=p) (hs:st.over=false∧st.size=0∧st.part=false) (hn:n≤18446744073709551615) :
  ∃ s2,dU l st=(s2,none)∧s2.pos=p+(dc n).length∧s2.over=false∧s2.size=n∧s2.part=false∧s2.minus=st.minus:=by
 have hd:=jA n;have hne:=eH n;have hh:l[p]? = (dc n).head?:=by
  have:=jS h 0;rw [Nat.add_zero] at this;rw [this];cases hx:dc n with
  | nil=>exact absurd hx hne
  | cons x u=>rfl
 unfold dU;rw [hp];by_cases h0:n=0
 ·subst h0;have hz:bL l p [48]=true:=by rw [fB _ hh];rfl
  rw [if_pos hz];exact ⟨_,rfl,rfl,hs.1,hs.2.1,hs.2.2,rfl⟩
 ·have hz:bL l p [48]=false:=by
   have h1:=mX (n+1) n (by omega) (by omega);change (dc n).headD 0≠48 at h1;rw [fB _ hh];cases hx:dc n with
   | nil=>exact absurd hx hne
   |cons x u =>
    rw [hx] at h1;have h1:x≠48:=h1;show [48].contains x=false
    simpa using h1
  rw [if_neg (by rw [hz];decide)];have hdg:=se h hd hr;unfold gI;rw [hp,hdg,if_neg hne];have hk:=mQ (dc n) [] st hd (.inr ⟨hs.1,by rw [hs.2.1];rfl,by decide⟩);rw [List.nil_append,ul] at hk;refine ⟨_,rfl,?_,?_,?_,?_,?_⟩
  ·show st.pos+_=_;rw [hp]
  ·show (cg (dc n) st).over=false
   rcases hk with ⟨_,hk⟩ | ⟨hk,_⟩
   ·omega
   ·exact hk
  ·show (cg (dc n) st).size=n
   rcases hk with ⟨_,hk⟩ | ⟨_,hk,_⟩
   ·omega
   ·exact hk
  ·show (cg (dc n) st).part=false
   rw [(jw _ _).1];exact hs.2.2
  ·show (cg (dc n) st).minus=st.minus
   exact (jw _ _).2
theorem un (n:Int):1≤(dV n).length:=by
 unfold dV;have:=List.length_pos_iff.2 (eH n.natAbs);split<;>simp<;>omega
theorem uo {n:Int} {p:Nat} {r:List UInt8} (hn:-9223372036854775808≤n∧n≤9223372036854775807) (h:l.drop p=dV n++r) (hr:pP r):bJ l (p:Int)=(n,((p+(dV n).length:Nat):Int),0):=by
 have hp:p<l.length:=oZ h (by intro e;have h:=congrArg List.length e;rw [List.length_append] at h;have:=un n;simp only [List.length_nil] at h;omega);unfold dV at h ⊢;by_cases h0:n<0
 ·rw [if_pos h0] at h ⊢;rw [List.cons_append] at h;have g0:l[p]? = some 45:=gq h;have hm:bL l p [45]=true:=by rw [fB _ g0];rfl
  have hsg:(sgn l p).pos=p+1∧(sgn l p).minus=true∧(sgn l p).over=false∧(sgn l p).size=0∧(sgn l p).part=false:=by
   unfold sgn cM bP;simp only;rw [hm];exact ⟨rfl,rfl,rfl,rfl,rfl⟩
  obtain ⟨s2,e1,e2,e3,e4,e5,e6⟩:=mt (qs h) hr hsg.1 hsg.2.2 (by omega);have hst:=ni (l:=l) (p:=s2.pos) (r:=r) (by rw [e2];exact oY (qs h)) hr;rw [uq (by omega) e1 hst.1 hst.2];unfold bV;rw [e5,e3,e6,hsg.2.1,e4,e2];have hb:decide (di true<n.natAbs)=false:=by rw [decide_eq_false_iff_not];unfold di;simp;omega
  rw [hb];simp;omega
 ·rw [if_neg h0] at h ⊢;have hh:l[p]? = (dc n.natAbs).head?:=by
   have:=jS h 0;rw [Nat.add_zero] at this;rw [this];cases hx:dc n.natAbs with
   | nil=>exact absurd hx (eH _)
   | cons x u=>rfl
  have hm:bL l p [45]=false:=by
   rw [fB _ hh];cases hx:dc n.natAbs with
   | nil=>rfl
   |cons x u =>
    have:=jA n.natAbs x (by rw [hx];exact List.mem_cons_self);show [45].contains x=false
    have h1:48≤x.toNat∧x.toNat≤57:=of_decide_eq_true this;simp only [List.contains_cons,List.contains_nil,Bool.or_false,beq_eq_false_iff_ne,ne_eq];intro e;subst e;simp at h1
  have hsg:(sgn l p).pos=p∧(sgn l p).minus=false∧(sgn l p).over=false∧(sgn l p).size=0∧(sgn l p).part=false:=by
   unfold sgn cM bP;simp only;rw [hm];exact ⟨rfl,rfl,rfl,rfl,rfl⟩
  obtain ⟨s2,e1,e2,e3,e4,e5,e6⟩:=mt h hr hsg.1 hsg.2.2 (by omega);have hst:=ni (l:=l) (p:=s2.pos) (r:=r) (by rw [e2];exact oY h) hr;rw [uq (by omega) e1 hst.1 hst.2];unfold bV;rw [e5,e3,e6,hsg.2.1,e4,e2];have hb:decide (di false<n.natAbs)=false:=by rw [decide_eq_false_iff_not];unfold di;simp;omega
  rw [hb];simp;omega
end Go.Proofs.YtgmnmnnoahdjnaaGreatDoor
