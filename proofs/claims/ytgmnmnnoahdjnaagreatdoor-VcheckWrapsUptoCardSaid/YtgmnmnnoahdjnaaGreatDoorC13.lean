import Derived.Test.YtgmnmnnoahdjnaaGreatDoorC11
set_option maxRecDepth 100000
set_option maxHeartbeats 16000000
set_option linter.unusedVariables false
set_option linter.unusedSimpArgs false
namespace Go.Proofs.YtgmnmnnoahdjnaaGreatDoor
section
open Go.RowKit
theorem nG (ds:List UInt8) (c:UInt8):e7 (ds++[c])=10*e7 ds+gz c:=by simp [e7]
theorem nM:∀ (ds pre:List UInt8) (s:NSt),(∀ c ∈ ds,a9 c=true)->((s.over=true/\18446744073709551615<e7 pre)∨(s.over=false/\s.size=e7 pre/\e7 pre<=18446744073709551615)) ->
  (((cm ds s).over=true/\18446744073709551615<e7 (pre++ds))∨((cm ds s).over=false/\(cm ds s).size=e7 (pre++ds)/\e7 (pre++ds)<=18446744073709551615))
 | [],pre,s,_,h=>by simpa [cm] using h
 |c::ds,pre,s,hd,h=>by
  have hc:48<=c.toNat/\c.toNat<=57:=of_decide_eq_true (hd c List.mem_cons_self);have ih:=nM ds (pre++[c]) (gE (gz c) s) (λ x hx=>hd x (List.mem_cons_of_mem _ hx));rw [List.append_assoc,List.singleton_append] at ih;refine ih ?_;rw [nG];have hv:gz c<=9:=by unfold gz;omega
  unfold gE;simp only;rcases h with ⟨h1,h2⟩ | ⟨h1,h2,h3⟩
  ·left;rw [h1];exact ⟨rfl,by omega⟩
  ·rw [h1,h2];by_cases ho:(18446744073709551615-gz c) / 10<e7 pre
   ·left;rw [decide_eq_true ho];exact ⟨rfl,by omega⟩
   ·right;rw [decide_eq_false ho];refine ⟨rfl,Nat.mod_eq_of_lt (by omega),by omega⟩
theorem jT (ds:List UInt8) (s:NSt):(cm ds s).part=s.part/\(cm ds s).minus=s.minus:=⟨(gS ds s).2.2,(gS ds s).2.1⟩
def ji:Nat->Nat->List UInt8
 | 0,_=>[]
 | f+1,n=>if n<10 then [UInt8.ofNat (48+n)] else ji f (n / 10)++[UInt8.ofNat (48+n % 10)]
def dp (n:Nat):List UInt8:=ji (n+1) n
theorem nW:∀ (f g n:Nat),n<f->n<g->ji f n=ji g n
 | 0,_,_,h,_=>by omega
 | _+1,0,_,_,h=>by omega
 |f+1,g+1,n,h,h'=>by
  unfold ji;split
  ·rfl
  ·rw [nW f g (n / 10) (by omega) (by omega)]
theorem jC {n:Nat} (h:n<10):dp n=[UInt8.ofNat (48+n)]:=by unfold dp ji;rw [if_pos h]
theorem nU {n:Nat} (h:10<=n):dp n=dp (n / 10)++[UInt8.ofNat (48+n % 10)]:=by
 unfold dp;rw [ji,if_neg (by omega),nW n (n / 10+1) (n / 10) (by omega) (by omega)]
def ep (n:Int):List UInt8:=if n<0 then 45::dp n.natAbs else dp n.natAbs
def kW (c:Nat):Option Nat :=
 if c=34 then some 34 else if c=92 then some 92 else if c=8 then some 98 else if c=12 then some 102 else if c=10 then some 110 else if c=13 then some 114 else if c=9 then some 116 else none
def rU (n:Nat):Nat:=if n<10 then 48+n else 87+n
def aQ (c:Nat):List UInt8 :=
 match kW c with
 | some s=>[92,UInt8.ofNat s]
 | none=>if c<32 then [92,117,48,48,UInt8.ofNat (48+c / 16),UInt8.ofNat (rU (c % 16))] else ag c
def lS:Nat->List UInt8->List Nat
 | _,[]=>[]
 | 0,_::_=>[]
 | f+1,c::r=>if (ar (c::r)).2=0 then [] else (ar (c::r)).1::lS f ((c::r).drop (ar (c::r)).2)
def fA (l:List UInt8):List Nat:=lS l.length l
def iF (l:List UInt8):List UInt8:=34::(fA l).flatMap aQ++[34]
theorem nF:∀ (f g:Nat) (l:List UInt8),l.length<=f->l.length<=g->lS f l=lS g l
 | f,g,[],_,_=>by cases f<;>cases g<;>rfl
 | 0,_,_::_,h,_=>by simp at h
 | _+1,0,_::_,_,h=>by simp at h
 |f+1,g+1,c::r,h,h'=>by
  unfold lS;split
  ·rfl
  ·rename_i hn
   rw [nF f g _ ?_ ?_] <;> · rw [List.length_drop,List.length_cons] at *;omega
theorem tV:fA []=[]:=rfl
theorem rH {l:List UInt8} (h:l≠[]):fA l=if (ar l).2=0 then [] else (ar l).1::fA (l.drop (ar l).2):=by
 cases l with
 | nil=>exact absurd rfl h
 |cons c r =>
  show lS (r.length+1) (c::r)=_
  unfold lS;split
  ·rfl
  ·rename_i hn
   rw [fA,nF _ _ _ ?_ (Nat.le_refl _)];rw [List.length_drop,List.length_cons];omega
theorem iP {l:List UInt8} {n:Nat} (h:cj l n=true):jw (bv l n:Int)=true/\l.take n=ag (bv l n):=by
 have h1:=(eQ _ _).1 h;exact ⟨(fB _).2 h1.2.1,h1.2.2.symm⟩
theorem oU {l:List UInt8} (h:(ar l).2≠0):jw ((ar l).1:Int)=true/\l.take (ar l).2=ag (ar l).1:=by
 by_cases h1:cj l 1=true
 ·rw [lD h1];exact iP h1
 ·have f1:cj l 1=false:=by simpa using h1
  by_cases h2:cj l 2=true
  ·rw [oP f1 h2];exact iP h2
  ·have f2:cj l 2=false:=by simpa using h2
   by_cases h3:cj l 3=true
   ·rw [oQ f1 f2 h3];exact iP h3
   ·have f3:cj l 3=false:=by simpa using h3
    by_cases h4:cj l 4=true
    ·rw [oR f1 f2 f3 h4];exact iP h4
    ·rw [d5 f1 f2 f3 (by simpa using h4)] at h;exact absurd rfl h
theorem rl:∀ (f:Nat) (l:List UInt8),l.length<=f->dL l=true->(∀ c ∈ fA l,jw (c:Int)=true)/\l=(fA l).flatMap ag
 | _,[],_,_=>⟨by simp [tV],rfl⟩
 | 0,_::_,h,_=>by simp at h
 |f+1,c::r,h,ht=>by
  have hne:c::r≠[]:=by simp
  rw [m8 hne] at ht;by_cases h0:(ar (c::r)).2=0
  ·rw [if_pos h0] at ht;cases ht
  ·rw [if_neg h0] at ht;obtain ⟨h1,h2⟩:=rl f _ (by rw [List.length_drop,List.length_cons];rw [List.length_cons] at h;omega) ht;obtain ⟨k1,k2⟩:=oU h0;rw [rH hne,if_neg h0];refine ⟨λ x hx=>?_,?_⟩
   ·rcases List.mem_cons.1 hx with rfl | hx
    ·exact k1
    ·exact h1 x hx
   ·rw [List.flatMap_cons,← k2,← h2,List.take_append_drop]
theorem lj {l:List UInt8} (h:dL l=true):(∀ c ∈ fA l,jw (c:Int)=true)/\l=(fA l).flatMap ag:=rl _ l (Nat.le_refl _) h
theorem fV {s:ByteArray} {p k:Nat} {b:UInt8} {u:List UInt8} (h:s.data.toList.drop p=u) (hb:u[k]? = some b):s.get! (p+k)=b/\p+k<s.size:=by
 have h1:s.data.toList[p+k]? = some b:=by rw [← hb,← h,List.getElem?_drop]
 obtain ⟨hlt,he⟩:=List.getElem?_eq_some_iff.1 h1;have hs:p+k<s.size:=by rw [Array.length_toList] at hlt;exact hlt
 refine ⟨?_,hs⟩;show s.get! (p+k)=b
 have:s.get! (p+k)=s[p+k]:=by
  simp [ByteArray.get!,getElem!_pos,hs];rfl
 rw [this,← he];rfl
theorem tW {s:ByteArray} {p c:Nat} {r:List UInt8} (hc:jw (c:Int)=true) (h:s.data.toList.drop p=ag c++r):Utf8.decode s p=(c,(ag c).length):=by
 have hle:=(fB c).1 hc;unfold ag at h ⊢;by_cases h1:c<128
 ·rw [if_pos h1] at h ⊢;obtain ⟨g0,s0⟩:=fV (k:=0) h (by rfl);have e0:=oN8 c (by omega);unfold Utf8.decode;simp only [g0,e0];rw [if_pos h1];rfl
 rw [if_neg h1] at h ⊢;by_cases h2:c<2048
 ·rw [if_pos h2] at h ⊢;obtain ⟨g0,s0⟩:=fV (k:=0) h (by rfl);obtain ⟨g1,s1⟩:=fV (k:=1) h (by rfl);have e0:=oN8 (192+c / 64) (by omega);have e1:=oN8 (128+c % 64) (by omega);unfold Utf8.decode;simp only [g0,g1,e0,e1];rw [if_neg (by omega),if_pos (by simp [s1];omega),if_pos (by omega)];simp;omega
 rw [if_neg h2] at h ⊢;by_cases h3:c<65536
 ·rw [if_pos h3] at h ⊢;obtain ⟨g0,s0⟩:=fV (k:=0) h (by rfl);obtain ⟨g1,s1⟩:=fV (k:=1) h (by rfl);obtain ⟨g2,s2⟩:=fV (k:=2) h (by rfl);have e0:=oN8 (224+c / 4096) (by omega);have e1:=oN8 (128+c / 64 % 64) (by omega);have e2:=oN8 (128+c % 64) (by omega);have hn:(224+c / 4096) % 16*4096+(128+c / 64 % 64) % 64*64+(128+c % 64) % 64=c:=by omega
  unfold Utf8.decode;simp only [g0,g1,g2,e0,e1,e2];rw [if_neg (by omega),if_neg (by simp;omega),if_pos (by simp [s1,s2];omega),hn,if_pos (by simp [Utf8.valid];omega)];simp
 ·rw [if_neg h3] at h ⊢;obtain ⟨g0,s0⟩:=fV (k:=0) h (by rfl);obtain ⟨g1,s1⟩:=fV (k:=1) h (by rfl);obtain ⟨g2,s2⟩:=fV (k:=2) h (by rfl);obtain ⟨g3,s3⟩:=fV (k:=3) h (by rfl);have e0:=oN8 (240+c / 262144) (by omega);have e1:=oN8 (128+c / 4096 % 64) (by omega);have e2:=oN8 (128+c / 64 % 64) (by omega);have e3:=oN8 (128+c % 64) (by omega);have hn:(240+c / 262144) % 8*262144+(128+c / 4096 % 64) % 64*4096+(128+c / 64 % 64) % 64*64+(128+c % 64) % 64=c:=by omega
  unfold Utf8.decode;simp only [g0,g1,g2,g3,e0,e1,e2,e3];rw [if_neg (by omega),if_neg (by simp;omega),if_neg (by simp;omega),if_pos (by simp [s1,s2,s3];omega),hn,if_pos (by simp [Utf8.valid];omega)];simp
theorem tY {c:Nat} (hc:jw (c:Int)=true):Utf8.encode (c:Int)=⟨(ag c).toArray⟩:=by
 have hle:=(fB c).1 hc;have hv:Utf8.valid (c:Int)=true:=by simp [Utf8.valid];omega
 unfold Utf8.encode ag;simp only [hv,if_true,Int.toNat_natCast];by_cases h1:c<128
 ·rw [if_pos h1,if_pos h1]
 rw [if_neg h1,if_neg h1];by_cases h2:c<2048
 ·rw [if_pos h2,if_pos h2]
 rw [if_neg h2,if_neg h2];by_cases h3:c<65536
 ·rw [if_pos h3,if_pos h3]
 ·rw [if_neg h3,if_neg h3]
variable {l:List UInt8}
theorem zx {p:Nat} {u:List UInt8} (h:l.drop p=u) (hp:p<=l.length):l.length=p+u.length:=by
 have:=congrArg List.length h;rw [List.length_drop] at this;omega
theorem qh {p:Nat} {u:List UInt8} (h:l.drop p=u) (hu:u≠[]):p<l.length:=by
 rcases Nat.lt_or_ge p l.length with h1 | h1
 ·exact h1
 ·rw [List.drop_eq_nil_of_le h1] at h;exact absurd h.symm hu
theorem kr {p:Nat} {u:List UInt8} (h:l.drop p=u) (i:Nat):l[p+i]? = u[i]?:=by rw [← h,List.getElem?_drop]
theorem gP {p:Nat} {c:UInt8} {u:List UInt8} (h:l.drop p=c::u):l[p]? = some c:=by have:=kr h 0;simpa using this
theorem qg {p:Nat} {u v:List UInt8} (h:l.drop p=u++v):l.drop (p+u.length)=v:=by rw [← List.drop_drop,h,List.drop_left]
theorem rJ {p:Nat} {c:UInt8} {v:List UInt8} (h:l.drop p=c::v):l.drop (p+1)=v:=qg (u:=[c]) h
theorem td {c:Nat} (h:jw (c:Int)=true):c<=1114111/\¬ (55296<=c/\c<=57343):=(fB c).1 h
theorem xU {c:Nat} (h:jw (c:Int)=true):0<aZ (c:Int):=by
 have h1:=td h;have:=(bQ c (bK c)).1 rfl;have h3:aZ (c:Int)=(bK c:Int):=(bq c _).2 rfl;omega
theorem rM {c s:Nat} (h:kW c=some s):(s=34∨s=92∨s=98∨s=102∨s=110∨s=114∨s=116)/\bj s=some c/\c<128:=by
 unfold kW at h
 repeat' split at h
 all_goals first
  | (simp only [Option.some.injEq] at h;subst h;subst_vars;exact ⟨by decide,by decide,by decide⟩)
  | cases h
theorem rL {c:Nat} (h:kW c=none):c≠34/\c≠92:=by
 unfold kW at h;refine ⟨λ e=>?_,λ e=>?_⟩ <;> · subst e;simp at h
theorem x9:∀ c,c<32->jv [48,48,UInt8.ofNat (48+c / 16),UInt8.ofNat (rU (c % 16))] 0=some c:=by decide +kernel
theorem yu {c p:Nat} {r:List UInt8} (hc:jw (c:Int)=true) (h:l.drop p=aQ c++r):qsS l p=((c:Int),((p+(aQ c).length:Nat):Int),0)/\1<=(aQ c).length:=by
 unfold aQ at h ⊢;cases he:kW c with
 |some s =>
  rw [he] at h;simp only [List.cons_append,List.nil_append] at h ⊢;obtain ⟨h1,h2,h3⟩:=rM he;have g0:l[p]? = some 92:=gP h;have g1:l[p+1]? = some (UInt8.ofNat s):=by have:=kr h 1;simpa using this
  have hs:(UInt8.ofNat s).toNat=s:=oN8 s (by omega);refine ⟨?_,by simp⟩;unfold qsS;rw [g0];simp only;rw [if_pos (by decide)];unfold lu;have hu:dM l p=none:=by
   unfold dM;rw [if_pos (.inr (.inr (by
    rw [g1];intro e;have:=congrArg (λ o=>(o.getD 0).toNat) e;simp only [Option.getD_some,hs] at this;have:s=117:=this;omega)))]
  rw [hu,g1];simp only;rw [hs,h2];simp
 |none =>
  rw [he] at h;simp only at h ⊢;obtain ⟨n1,n2⟩:=rL he;by_cases h32:c<32
  ·rw [if_pos h32] at h ⊢;refine ⟨?_,by simp⟩;simp only [List.cons_append,List.nil_append] at h;have g0:l[p]? = some 92:=gP h;have g1:l[p+1]? = some 117:=by have:=kr h 1;simpa using this
   have hp:=qh h (by simp);have hlen:=zx h (by omega);simp only [List.length_cons] at hlen;unfold qsS;rw [g0];simp only;rw [if_pos (by decide)];unfold lu;have hu:dM l p=some c:=by
    unfold dM;rw [if_neg (by
     rintro (h1 | h1 | h1)
     ·omega
     ·exact h1 g0
     ·exact h1 g1)]
    have hd:l.drop (p+2)=48::48::UInt8.ofNat (48+c / 16)::UInt8.ofNat (rU (c % 16))::r:=by
     rw [← List.drop_drop,h];rfl
    rw [hd];exact x9 c h32
   rw [hu];simp only;rw [if_pos (xU hc)];simp
  ·rw [if_neg h32] at h ⊢;obtain ⟨k1,k2,k3⟩:=eM c r hc;refine ⟨?_,k2⟩;have hne:ag c++r≠[]:=by intro e;have h:=congrArg List.length e;rw [List.length_append] at h;simp only [List.length_nil] at h;omega
   have hp:=qh h hne;obtain ⟨b,u,hb⟩:=List.exists_cons_of_ne_nil hne;have g0:l[p]? = some b:=by rw [hb] at h;exact gP h
   have hb0:b.toNat≠92/\¬ (b.toNat<32∨b.toNat=34):=by
    have hle:=td hc;unfold ag at hb;split at hb
    ·simp only [List.cons_append,List.cons.injEq] at hb;have:=oN8 c (by omega);rw [← hb.1,this];omega
    split at hb
    ·simp only [List.cons_append,List.cons.injEq] at hb;have:=oN8 (192+c / 64) (by omega);rw [← hb.1,this];omega
    split at hb
    ·simp only [List.cons_append,List.cons.injEq] at hb;have:=oN8 (224+c / 4096) (by omega);rw [← hb.1,this];omega
    ·simp only [List.cons_append,List.cons.injEq] at hb;have:=oN8 (240+c / 262144) (by omega);rw [← hb.1,this];omega
   unfold qsS;rw [g0];simp only;rw [if_neg hb0.1,if_neg hb0.2];unfold eT;rw [if_neg (by omega),if_neg (by omega),Int.toNat_natCast,h,k1];simp only;rw [if_neg (by omega)];simp
theorem wR {p:Nat} (h:l[p]? = some 34):(qsS l p).2.2≠0:=by
 unfold qsS;rw [h];simp only;rw [if_neg (by decide),if_pos (.inr (by decide))];decide
theorem mT:∀ (cs:List Nat) (p:Nat) (r:List UInt8),(∀ c ∈ cs,jw (c:Int)=true)->l.drop p=cs.flatMap aQ++34::r ->
  bG (aR l p)=cs.flatMap ag/\et p (aR l p)=p+(cs.flatMap aQ).length
 |[],p,r,_,h=>by
  have g0:l[p]? = some 34:=gP h;rw [gW (λ _=>wR g0)];exact ⟨rfl,rfl⟩
 |c::cs,p,r,hc,h=>by
  rw [List.flatMap_cons,List.append_assoc] at h;obtain ⟨h1,h2⟩:=yu (hc c List.mem_cons_self) h;have hne:aQ c++(cs.flatMap aQ++34::r)≠[]:=by intro e;have h:=congrArg List.length e;rw [List.length_append] at h;simp only [List.length_nil] at h;omega
  have hp:=qh h hne;have h3:=qg h;obtain ⟨i1,i2⟩:=mT cs _ r (λ x hx=>hc x (List.mem_cons_of_mem _ hx)) h3;rw [fT h1 hp,uw];refine ⟨?_,?_⟩
  ·unfold bG at i1 ⊢;rw [List.flatMap_cons,i1,List.flatMap_cons];simp
  ·simp only [Int.toNat_natCast];rw [i2,List.flatMap_cons,List.length_append];omega
theorem wT {s:List UInt8} {p:Nat} {r:List UInt8} (hs:dL s=true) (h:l.drop p=iF s++r):dE l (p:Int)=(s,((p+(iF s).length:Nat):Int),0):=by
 obtain ⟨h1,h2⟩:=lj hs;unfold iF at h ⊢;simp only [List.cons_append,List.append_assoc] at h;have g0:l[p]? = some 34:=gP h;have hp:=qh h (by simp);have h3:=rJ h;obtain ⟨i1,i2⟩:=mT (fA s) (p+1) r h1 h3;have h4:=qg h3;have g1:l[p+1+((fA s).flatMap aQ).length]? = some 34:=gP h4;rw [wP hp,if_neg (by rw [g0];simp),i1,i2,if_pos g1,← h2];simp only [List.length_cons,List.length_append,List.cons_append,Prod.mk.injEq,true_and,and_true,List.length_nil];omega
theorem qG:∀ (f n:Nat),∀ c ∈ ji f n,a9 c=true
 | 0,_,c,h=>by cases h
 |f+1,n,c,h=>by
  unfold ji at h;have key:∀ k,k<10->a9 (UInt8.ofNat (48+k))=true:=by decide
  split at h
  ·rename_i h1
   rw [List.mem_singleton] at h;subst h;exact key n h1
  ·rcases List.mem_append.1 h with h | h
   ·exact qG f _ c h
   ·rw [List.mem_singleton] at h;subst h;exact key _ (by omega)
theorem jY (n:Nat):∀ c ∈ dp n,a9 c=true:=qG _ _
theorem qH:∀ (f n:Nat),n<f->e7 (ji f n)=n
 | 0,_,h=>by omega
 |f+1,n,h=>by
  unfold ji;have key:∀ k,k<10->gz (UInt8.ofNat (48+k))=k:=by decide
  split
  ·rename_i h1
   show 10*0+gz _=n
   rw [key n h1];omega
  ·rw [nG,qH f _ (by omega),key _ (by omega)];omega
theorem wl (n:Nat):e7 (dp n)=n:=qH _ _ (by omega)
theorem tp:∀ (f n:Nat),n<f->ji f n≠[]
 | 0,_,h=>by omega
 | f+1,n,h=>by unfold ji;split<;>simp
theorem fh (n:Nat):dp n≠[]:=tp _ _ (by omega)
theorem nV:∀ (f n:Nat),n<f->0<n->(ji f n).headD 0≠48
 | 0,_,h,_=>by omega
 |f+1,n,h,h0=>by
  unfold ji;have key:∀ k,k<10->0<k->UInt8.ofNat (48+k)≠48:=by decide
  split
  ·rename_i h1
   exact key n h1 h0
  ·have hne:=tp f (n / 10) (by omega);have:=nV f (n / 10) (by omega) (by omega);cases hx:ji f (n / 10) with
   | nil=>exact absurd hx hne
   | cons x r=>rw [hx] at this;exact this
def ra (r:List UInt8):Prop:=∀ c,r.head? = some c->a9 c=false/\c≠46/\c≠101/\c≠69
theorem tH:∀ {ds r:List UInt8},(∀ c ∈ ds,a9 c=true)->(∀ c,r.head? = some c->a9 c=false)->(ds++r).takeWhile a9=ds
 | [],[],_,_=>rfl
 |[],c::r,_,h=>by
  rw [List.nil_append,List.takeWhile_cons,h c rfl];rfl
 |d::ds,r,h,h'=>by
  rw [List.cons_append,List.takeWhile_cons,h d List.mem_cons_self,if_pos rfl,tH (λ c hc=>h c (List.mem_cons_of_mem _ hc)) h']
def tz (c:Option UInt8) (x:List UInt8):Bool:=match c with | some b=>x.contains b | none=>false
theorem fS {p:Nat} {x:List UInt8} (c:Option UInt8) (h:l[p]? = c):bL l p x=tz c x:=by
 unfold bL tz;rw [h];cases c<;>rfl
theorem ou {p:Nat} {r:List UInt8} (h:l.drop p=r) (hr:ra r):bL l p [46]=false/\bL l p [101,69]=false:=by
 have e:l[p]? = r.head?:=by
  have:=kr h 0;rw [Nat.add_zero] at this;rw [this];cases r<;>rfl
 cases hh:r.head? with
 | none=>rw [hh] at e;exact ⟨by rw [fS _ e];rfl,by rw [fS _ e];rfl⟩
 |some c =>
  obtain ⟨_,h2,h3,h4⟩:=hr c hh;rw [hh] at e;refine ⟨?_,?_⟩
  ·rw [fS _ e];unfold tz;simpa using h2
  ·rw [fS _ e];unfold tz;simp;exact ⟨h3,h4⟩
theorem tX {p:Nat} {ds r:List UInt8} (h:l.drop p=ds++r) (hd:∀ c ∈ ds,a9 c=true) (hr:ra r):eu l p=ds:=by
 unfold eu;rw [h];exact tH hd (λ c hc=>(hr c hc).1)
theorem ni {p n:Nat} {r:List UInt8} {st:NSt} (h:l.drop p=dp n++r) (hr:ra r) (hp:st.pos=p) (hs:st.over=false/\st.size=0/\st.part=false) (hn:n<=18446744073709551615) :
  ∃ s2,ei l st=(s2,none)/\s2.pos=p+(dp n).length/\s2.over=false/\s2.size=n/\s2.part=false/\s2.minus=st.minus:=by
 have hd:=jY n;have hne:=fh n;have hh:l[p]? = (dp n).head?:=by
  have:=kr h 0;rw [Nat.add_zero] at this;rw [this];cases hx:dp n with
  | nil=>exact absurd hx hne
  | cons x u=>rfl
 unfold ei;rw [hp];by_cases h0:n=0
 ·subst h0;have hz:bL l p [48]=true:=by rw [fS _ hh];rfl
  rw [if_pos hz];exact ⟨_,rfl,rfl,hs.1,hs.2.1,hs.2.2,rfl⟩
 ·have hz:bL l p [48]=false:=by
   have h1:=nV (n+1) n (by omega) (by omega);change (dp n).headD 0≠48 at h1;rw [fS _ hh];cases hx:dp n with
   | nil=>exact absurd hx hne
   |cons x u =>
    rw [hx] at h1;have h1:x≠48:=h1;show [48].contains x=false
    simpa using h1
  rw [if_neg (by rw [hz];decide)];have hdg:=tX h hd hr;unfold ii;rw [hp,hdg,if_neg hne];have hk:=nM (dp n) [] st hd (.inr ⟨hs.1,by rw [hs.2.1];rfl,by decide⟩);rw [List.nil_append,wl] at hk;refine ⟨_,rfl,?_,?_,?_,?_,?_⟩
  ·show st.pos+_=_;rw [hp]
  ·show (cm (dp n) st).over=false
   rcases hk with ⟨_,hk⟩ | ⟨hk,_⟩
   ·omega
   ·exact hk
  ·show (cm (dp n) st).size=n
   rcases hk with ⟨_,hk⟩ | ⟨_,hk,_⟩
   ·omega
   ·exact hk
  ·show (cm (dp n) st).part=false
   rw [(jT _ _).1];exact hs.2.2
  ·show (cm (dp n) st).minus=st.minus
   exact (jT _ _).2
theorem wn (n:Int):1<=(ep n).length:=by
 unfold ep;have:=List.length_pos_iff.2 (fh n.natAbs);split<;>simp<;>omega
theorem ws {n:Int} {p:Nat} {r:List UInt8} (hn:-9223372036854775808<=n/\n<=9223372036854775807) (h:l.drop p=ep n++r) (hr:ra r):cD l (p:Int)=(n,((p+(ep n).length:Nat):Int),0):=by
 have hp:p<l.length:=qh h (by intro e;have h:=congrArg List.length e;rw [List.length_append] at h;have:=wn n;simp only [List.length_nil] at h;omega);unfold ep at h ⊢;by_cases h0:n<0
 ·rw [if_pos h0] at h ⊢;rw [List.cons_append] at h;have g0:l[p]? = some 45:=gP h;have hm:bL l p [45]=true:=by rw [fS _ g0];rfl
  have hsg:(sgn l p).pos=p+1/\(sgn l p).minus=true/\(sgn l p).over=false/\(sgn l p).size=0/\(sgn l p).part=false:=by
   unfold sgn cS bP;simp only;rw [hm];exact ⟨rfl,rfl,rfl,rfl,rfl⟩
  obtain ⟨s2,e1,e2,e3,e4,e5,e6⟩:=ni (rJ h) hr hsg.1 hsg.2.2 (by omega);have hst:=ou (l:=l) (p:=s2.pos) (r:=r) (by rw [e2];exact qg (rJ h)) hr;rw [wt (by omega) e1 hst.1 hst.2];unfold bV;rw [e5,e3,e6,hsg.2.1,e4,e2];have hb:decide (dw true<n.natAbs)=false:=by rw [decide_eq_false_iff_not];unfold dw;simp;omega
  rw [hb];simp;omega
 ·rw [if_neg h0] at h ⊢;have hh:l[p]? = (dp n.natAbs).head?:=by
   have:=kr h 0;rw [Nat.add_zero] at this;rw [this];cases hx:dp n.natAbs with
   | nil=>exact absurd hx (fh _)
   | cons x u=>rfl
  have hm:bL l p [45]=false:=by
   rw [fS _ hh];cases hx:dp n.natAbs with
   | nil=>rfl
   |cons x u =>
    have:=jY n.natAbs x (by rw [hx];exact List.mem_cons_self);show [45].contains x=false
    have h1:48<=x.toNat/\x.toNat<=57:=of_decide_eq_true this;simp only [List.contains_cons,List.contains_nil,Bool.or_false,beq_eq_false_iff_ne,ne_eq];intro e;subst e;simp at h1
  have hsg:(sgn l p).pos=p/\(sgn l p).minus=false/\(sgn l p).over=false/\(sgn l p).size=0/\(sgn l p).part=false:=by
   unfold sgn cS bP;simp only;rw [hm];exact ⟨rfl,rfl,rfl,rfl,rfl⟩
  obtain ⟨s2,e1,e2,e3,e4,e5,e6⟩:=ni h hr hsg.1 hsg.2.2 (by omega);have hst:=ou (l:=l) (p:=s2.pos) (r:=r) (by rw [e2];exact qg h) hr;rw [wt (by omega) e1 hst.1 hst.2];unfold bV;rw [e5,e3,e6,hsg.2.1,e4,e2];have hb:decide (dw false<n.natAbs)=false:=by rw [decide_eq_false_iff_not];unfold dw;simp;omega
  rw [hb];simp;omega
end
end Go.Proofs.YtgmnmnnoahdjnaaGreatDoor
