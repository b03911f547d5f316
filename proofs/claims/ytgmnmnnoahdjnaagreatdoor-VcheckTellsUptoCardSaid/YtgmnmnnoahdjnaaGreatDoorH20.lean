import Derived.Test.YtgmnmnnoahdjnaaGreatDoorH18
import Derived.Test.YtgmnmnnoahdjnaaGreatDoorH19
open Go.Value renaming int → Zi, slice → Zs, string → Zt, pointer → Zp
open Go.IntKind renaming i64 → Zq
set_option maxRecDepth 100000
set_option maxHeartbeats 16000000
set_option linter.unusedVariables false
set_option linter.unusedSimpArgs false
namespace Go.Proofs.YtgmnmnnoahdjnaaGreatDoor
section
abbrev LX:=Int × List UInt8 × Int
def lK (s:List UInt8):LX:=(5,s,0)
def nX (s:List UInt8):LX:=(2,s,0)
def wI (k:Int):Nat :=
 if k=15 then 1 else if k=14 then 2 else if k=5 then 3 else if k=11∨k=12∨k=13 then 4 else if k=9∨k=10 then 5 else if k=8 then 6 else if k=6∨k=7 then 7 else if k=3 then 8 else 9
def opK (k:Int):LX :=
 if k=15 then nX [111,114] else if k=14 then nX [97,110,100] else if k=5 then nX [110,111,116] else if k=11 then lK [61,61] else if k=12 then lK [60] else if k=13 then lK [60,61]
 else if k=9 then lK [43] else if k=10 then lK [45] else if k=8 then lK [42] else if k=6 then nX [115,105,122,101] else nX [107,105,110,100]
def rdT (T:List al) (p:Nat):LX:=(tkK T p,tkT T p,tkN T p)
theorem qz {T:List al} {p:Nat} {k:Int} {t w:List UInt8} {n:Int} (h:rdT T p=(k,t,n)):ao T p w=decide ((k=5∨k=2)/\t=w):=by
 unfold rdT at h;injection h with h1 h2
 injection h2 with h2 h3
 unfold ao;rw [h1,h2]
theorem mK {T:List al} {p:Nat} {k:Int} {t:List UInt8} {n:Int} (h:rdT T p=(k,t,n)) (hk:k=5∨k=2):∀ l:List (List UInt8 × Int),eI T p l=(l.find? (λ x=>decide (t=x.1))).map (·.2)
 | []=>rfl
 |x::r=>by
  unfold eI;rw [qz h,mK h hk r,List.find?_cons];by_cases e:t=x.1<;>simp [e,hk]
end
section
open Go.RowKit
attribute [local go_sem] ab ae af ac
def jH (g:Nat):Array Value:=#[.func (.func 122) #[] #[],.func (.func 128) #[Zp (some ⟨g,0,none⟩)] #[],
 .func (.func 123) #[] #[],.func (.func 129) #[Zp (some ⟨g,0,none⟩)] #[],
 .func (.func 130) #[] #[],.func (.func 131) #[Zp (some ⟨g,0,none⟩)] #[],
 .func (.func 132) #[] #[],.func (.func 133) #[Zp (some ⟨g,0,none⟩)] #[]]
theorem pR (g:Nat) (w:World) :
  Calls Tryz.prog 84 #[Zp (some ⟨g,0,none⟩)] w λ e w'=>e=.returned (.func (.func 134) #[] #[Zp (some ⟨w.heap.size,0,none⟩),Zp (some ⟨w.heap.size+1,0,none⟩)]) /\
   Blk w' w.heap.size 109 #[Zp (some ⟨g,0,none⟩)]/\Blk w' (w.heap.size+1) 165 (jH g)/\w'.heap.size=w.heap.size+2/\Below w.heap.size w w':=by
 have hmf:∀ (fn:Fn) (first cap:Array Value) (w:World),(Instr.makeFunc fn first cap).run Tryz.prog w=.ok (.func fn first cap) w:=λ _ _ _ _=>rfl
 go_enter Tryz.func84,Tryz.ntmps84;go_wp2;go_ret;refine ⟨rfl,(Blk.new w _ _).alloc _,?_,by simp,by go_grown⟩;have:=Blk.new (w.alloc (.cells #[Zp (some ⟨g,0,none⟩)] 109)) 165 (jH g);rw [World.size_alloc] at this;exact this
end
section
open Go.RowKit
def cK (l:List UInt8) (p:Nat):mo :=
 match l[p]? with
 | some c=>if bi c then fl l p else if cD c then dw l p else if c.toNat=34 then gi l p else fo l p
 | none=>.inr (0,0)
theorem eD {l:List UInt8} {p:Nat}:∀ {ss:List (List UInt8)} {s:List UInt8},dn l p ss=some s->s ∈ ss/\du l p s=true
 | [],s,h=>by cases h
 |x::r,s,h=>by
  unfold dn at h;split at h
  ·rename_i hx;cases h;exact ⟨List.mem_cons_self,hx⟩
  ·have:=eD h;exact ⟨List.mem_cons_of_mem _ this.1,this.2⟩
theorem iT {l:List UInt8} {p:Nat} {k n:Int} {t:List UInt8} {m:Nat} (hp:p<l.length) (h:cK l p=.inl (k,t,n,m)):p<m/\m<=l.length:=by
 unfold cK at h;rw [List.getElem?_eq_getElem hp] at h;simp only at h;split at h
 ·rename_i hc
  have hld:dS l[p]=true:=by rw [dS,hc];rfl
  have ht:=mH (List.getElem?_eq_getElem hp) hld;have hlen:((l.drop p).takeWhile dS).length<=l.length-p:=by
   have:=(List.takeWhile_sublist dS (l:=l.drop p)).length_le;simpa using this
  have hpos:0<((l.drop p).takeWhile dS).length:=by rw [ht];simp
  unfold fl at h;simp only at h;split at h
  ·simp only [Sum.inl.injEq,Prod.mk.injEq] at h;omega
  ·split at h
   ·simp only [Sum.inl.injEq,Prod.mk.injEq] at h;omega
   ·cases h
 ·split at h
  ·unfold dw at h;simp only at h;split at h
   ·rename_i he
    obtain ⟨m',h1,h2,h3⟩:=mJ he;simp only [Sum.inl.injEq,Prod.mk.injEq] at h;rw [h1] at h;simp only [Int.toNat_natCast] at h;omega
   ·cases h
  ·split at h
   ·unfold gi at h;simp only at h;split at h
    ·rename_i he
     obtain ⟨m',h1,h2,h3⟩:=ow he;simp only [Sum.inl.injEq,Prod.mk.injEq] at h;rw [h1] at h;simp only [Int.toNat_natCast] at h;omega
    ·cases h
   ·unfold fo at h;cases hf:dn l p cc with
    | none=>rw [hf] at h;cases h
    |some s =>
     rw [hf] at h;simp only [Sum.inl.injEq,Prod.mk.injEq] at h;obtain ⟨hmem,hst⟩:=eD hf;have h1:1<=s.length:=by
      have:∀ x ∈ cc,1<=x.length:=by decide
      exact this s hmem
     unfold du at hst;have h2:=congrArg List.length (of_decide_eq_true hst);simp at h2;omega
def fm (l:List UInt8):Nat->Nat->List al × Option (Int × Int)
 | 0,_=>([],none)
 |k+1,p =>
  if bM l p<l.length then
   match cK l (bM l p) with
   | .inl (kd,t,n,m)=>((kd,bM l p,t,n)::(fm l k m).1,(fm l k m).2)
   | .inr e=>([],some e)
  else ([(6,l.length,[],0)],none)
theorem mi (l:List UInt8):∀ (k k' p:Nat),l.length-p<k->l.length-p<k'->fm l k p=fm l k' p
 | 0,_,_,h,_=>by omega
 | _,0,_,_,h=>by omega
 |k+1,k'+1,p,h,h'=>by
  unfold fm;split
  ·rename_i hq
   cases hv:cK l (bM l p) with
   | inr e=>rfl
   |inl r =>
    obtain ⟨kd,t,n,m⟩:=r;have:=iT hq hv;have hg:=iJ l p;simp only;rw [mi l k k' m (by omega) (by omega)]
  ·rfl
def bP (l:List UInt8) (p:Nat):List al × Option (Int × Int):=fm l (l.length+1-p) p
theorem rC {l:List UInt8} {p:Nat} (hp:p<=l.length) (h:¬ bM l p<l.length):bP l p=([(6,l.length,[],0)],none):=by
 unfold bP;obtain ⟨k,hk⟩:∃ k,l.length+1-p=k+1:=⟨l.length-p,by omega⟩
 rw [hk,fm,if_neg h]
theorem rD {l:List UInt8} {p:Nat} (hp:p<=l.length) (h:bM l p<l.length) {e:Int × Int} (hv:cK l (bM l p)=.inr e):bP l p=([],some e):=by
 unfold bP;obtain ⟨k,hk⟩:∃ k,l.length+1-p=k+1:=⟨l.length-p,by omega⟩
 rw [hk,fm,if_pos h,hv]
theorem rE {l:List UInt8} {p:Nat} (hp:p<=l.length) (h:bM l p<l.length) {kd n:Int} {t:List UInt8} {m:Nat} (hv:cK l (bM l p)=.inl (kd,t,n,m)) :
  bP l p=((kd,bM l p,t,n)::(bP l m).1,(bP l m).2):=by
 unfold bP;obtain ⟨k,hk⟩:∃ k,l.length+1-p=k+1:=⟨l.length-p,by omega⟩
 have h1:=iT h hv;have h2:=iJ l p;rw [hk,fm,if_pos h,hv];simp only;rw [mi l k (l.length+1-m) m (by omega) (by omega)]
def cm (c:UInt8):Nat:=if bi c then 0 else if cD c then 1 else if c.toNat=34 then 2 else 3
theorem ld {l:List UInt8} {p:Nat} {c:UInt8} (h:l[p]? = some c):cK l p=if cm c=0 then fl l p else if cm c=1 then dw l p else if cm c=2 then gi l p else fo l p:=by
 unfold cK cm;rw [h];simp only;by_cases h1:bi c=true
 ·simp [h1]
 ·by_cases h2:cD c=true
  ·simp [h1,h2]
  ·by_cases h3:c.toNat=34
   ·simp [h1,h2,h3]
   ·simp [h1,h2,h3]
def kU (r:mo) (p:Nat):Int × Int × ByteArray × Int × Int × Int :=
 match r with
 | .inl (k,t,n,m)=>(k,p,⟨t.toArray⟩,n,m,0)
 | .inr (q,er)=>(0,0,⟨#[]⟩,0,q,er)
theorem ex.uni {r:mo} {p:Nat} {w:World} {g:Nat} {A:Option Addr} {cap:Nat} {l:List UInt8} {e:Ending} {w':World} (h:ex r p w g A cap l e w') :
  e=.returned (rz (kU r p).1 (kU r p).2.1 (kU r p).2.2.1 (kU r p).2.2.2.1)/\aJ w g A cap l (kU r p).2.2.2.2.1 (kU r p).2.2.2.2.2 w':=by
 unfold ex at h;unfold kU;rcases r with ⟨k,t,n,m⟩ | ⟨q,er⟩
 ·exact h
 ·exact h
theorem mj {l:List UInt8} {p:Nat} (hp:p<l.length) {q er:Int} (h:cK l p=.inr (q,er)):er≠0:=by
 obtain ⟨c,hc⟩:∃ c,l[p]? = some c:=⟨_,List.getElem?_eq_getElem hp⟩
 rw [ld hc] at h;split at h
 ·unfold fl at h;simp only at h;split at h
  ·cases h
  ·split at h
   ·cases h
   ·simp only [Sum.inr.injEq,Prod.mk.injEq] at h;omega
 ·split at h
  ·unfold dw at h;simp only at h;split at h
   ·cases h
   ·rename_i hn;simp only [Sum.inr.injEq,Prod.mk.injEq] at h;rw [← h.2];exact hn
  ·split at h
   ·unfold gi at h;simp only at h;split at h
    ·cases h
    ·rename_i hn;simp only [Sum.inr.injEq,Prod.mk.injEq] at h;rw [← h.2];exact hn
   ·unfold fo at h;split at h
    ·cases h
    ·simp only [Sum.inr.injEq,Prod.mk.injEq] at h;omega
theorem sS (c:UInt8):cm c<=3:=by unfold cm;(repeat' split)<;>omega
theorem wt {c:UInt8} (h:cm c=0):bi c=true:=by
 unfold cm at h;split at h
 ·assumption
 ·(repeat' split at h)<;>omega
theorem mG {c:UInt8} (h:¬ cm c=0):bi c=false:=by
 unfold cm at h;split at h
 ·omega
 ·rename_i hn;simpa using hn
theorem wu {c:UInt8} (h:cm c=1):cD c=true:=by
 unfold cm at h;split at h
 ·omega
 ·split at h
  ·assumption
  ·split at h<;>omega
theorem qq {c:UInt8} (h:¬ cm c=1) (h0:¬ cm c=0):cD c=false:=by
 have h2:=mG h0;unfold cm at h;rw [h2,if_neg (by simp)] at h;split at h
 ·exact absurd rfl h
 ·rename_i hn;simpa using hn
theorem wv {c:UInt8} (h:cm c=2):decide (c.toNat=34)=true:=by
 unfold cm at h;split at h
 ·omega
 ·split at h
  ·omega
  ·split at h
   ·simpa
   ·omega
theorem uI {c:UInt8} (h:¬ cm c=2) (h0:¬ cm c=0) (h1:¬ cm c=1):decide (c.toNat=34)=false:=by
 have h3:=mG h0;have h4:=qq h1 h0;unfold cm at h;rw [h3,h4] at h;rw [decide_eq_false_iff_not];intro e;rw [if_neg (by simp),if_neg (by simp),if_pos e] at h;exact h rfl
theorem iQ {fk:Nat} {g:Nat} {A:Option Addr} {cap:Nat} {l:List UInt8} {q:Nat} (r:mo) (h:∀ W,GOK W->VB W g A cap l q 0->Calls Tryz.prog fk #[Zp (some ⟨g,0,none⟩)] W (ex r q W g A cap l)) :
  ∃ (a bb:Int) (s:ByteArray) (d m y:Int),(a,bb,s,d,m,y)=kU r q/\∀ W,GOK W->VB W g A cap l q 0->Calls Tryz.prog fk #[Zp (some ⟨g,0,none⟩)] W λ e w' =>
   e=.returned (.agg #[Zi Zq a,Zi Zq bb,Zt s,Zi Zq d])/\aJ W g A cap l m y w' :=
 ⟨_,_,_,_,_,_,rfl,λ W hG hV=>(h W hG hV).mono λ _ _ hp=>hp.uni⟩
end
end Go.Proofs.YtgmnmnnoahdjnaaGreatDoor
