import Derived.Test.YtgmnmnnoahdjnaaGreatDoorC23
set_option maxRecDepth 100000
set_option maxHeartbeats 16000000
set_option linter.unusedVariables false
set_option linter.unusedSimpArgs false
namespace Go.Proofs.YtgmnmnnoahdjnaaGreatDoor
section
section
variable {d:Array (List UInt8)}
end
theorem Cc {l l':List (List UInt8)} (h:∀ x,x ∈ l ↔ x ∈ l'):mO l=mO l':=rn (qX l) (qX l') λ x=>by rw [qW,qW,h x]
theorem BV (l:List SJ):dQ l=if fG l=true then rgL (knw []) 0 l else 332:=by
 unfold dQ;rw [← (mN l [] (by simp)).1];rfl
mutual
def B3 (q:List UInt8):SJ->Prop | .mk k s _ _ body els=>(k=3/\s=q)∨BG q body∨BG q els
def BG (q:List UInt8):List SJ->Prop | []=>False | x::r=>B3 q x∨BG q r
end
mutual
theorem Ci (q:List UInt8):∀ (x:SJ) (bd:List (List UInt8)),q ∉ frS bd x->frS (q::bd) x=frS bd x
 | .mk k s a b body els,bd,h=>by
  rw [frS] at h;simp only [List.mem_append,not_or] at h;rw [frS,frS,BN q els bd h.2.2];have h1:(cY a++cY b).filter (λ t=>decide (t ∉ q::bd))=(cY a++cY b).filter (λ t=>decide (t ∉ bd)):=by
   refine List.filter_congr λ t ht=>?_
   have:t=q->t ∈ bd:=λ e=>Classical.byContradiction λ hb=>h.1 (by rw [List.mem_filter];subst e;exact ⟨ht,by simpa using hb⟩)
   simp only [List.mem_cons,not_or,decide_eq_decide];exact ⟨λ h=>h.2,λ h=>⟨λ e=>h (this e),h⟩⟩
  rw [h1];by_cases hk:k=3
  ·rw [if_pos hk] at h;rw [if_pos hk,if_pos hk,List.cons_append,BN q body (bd++[s]) h.2.1]
  ·rw [if_neg hk] at h;rw [if_neg hk,if_neg hk,BN q body bd h.2.1]
theorem BN (q:List UInt8):∀ (l:List SJ) (bd:List (List UInt8)),q ∉ fX bd l->fX (q::bd) l=fX bd l
 | [],bd,h=>rfl
 |x::r,bd,h=>by
  rw [fX] at h;simp only [List.mem_append,not_or] at h;rw [fX,fX,Ci q x bd h.1,BN q r bd h.2]
end
mutual
theorem Ck (q:List UInt8):∀ (x:SJ) (bd:List (List UInt8)),¬ B3 q x->(twS (q::bd) x ↔ twS bd x)
 | .mk k s a b body els,bd,h=>by
  rw [B3] at h;simp only [not_or] at h;rw [twS,twS,BO q els bd h.2.2,BO q body bd h.2.1,List.cons_append,BO q body (bd++[s]) h.2.1];have:k=3->(s ∉ q::bd ↔ s ∉ bd):=λ hk=>by
   have hs:s≠q:=λ e=>h.1 ⟨hk,e⟩
   simp [hs]
  constructor
  ·rintro ⟨h1,h2⟩;exact ⟨λ hk=>⟨(h1 hk).1,(this hk).1 (h1 hk).2.1,(h1 hk).2.2⟩,h2⟩
  ·rintro ⟨h1,h2⟩;exact ⟨λ hk=>⟨(h1 hk).1,(this hk).2 (h1 hk).2.1,(h1 hk).2.2⟩,h2⟩
theorem BO (q:List UInt8):∀ (l:List SJ) (bd:List (List UInt8)),¬ BG q l->(sJ (q::bd) l ↔ sJ bd l)
 | [],bd,h=>Iff.rfl
 |x::r,bd,h=>by
  rw [BG] at h;simp only [not_or] at h;rw [sJ,sJ,Ck q x bd h.1,BO q r bd h.2]
end
theorem BR {p:List SJ} (hm:fG p=true) (h:gvL ckG [] p ()=.ok ()):dQ p=0:=by unfold dQ;rw [if_pos hm,h];rfl
def BF (q:List UInt8) (p:List SJ):List SJ:=[.mk 3 q (nmE [100,111,99]) aM p []]
theorem BX (q:List UInt8) (p:List SJ):fd (BF q p)=fd p+1:=by
 rw [uk,uk];simp [BF,kl,deS]
theorem BU (q:List UInt8) (p:List SJ):fX [] (BF q p)=[100,111,99]::fX [q] p:=by
 simp [BF,fX,frS,nmE,aM,cY,bI]
theorem B6 {q:List UInt8} {p:List SJ} (hg:giv q=false) (hm:fG (BF q p)=true) (hp:fG p=true) (h1:q ∉ kX p) (h2:¬ BG q p) :
  mO (kX p++[[100,111,99]])=kX (BF q p)/\(dQ (BF q p)=0 ↔ dQ p=0/\fd p<2):=by
 rw [iy,qW] at h1;have hf:=BN q p [] h1;have ht:=BO q p [] h2;refine ⟨?_,?_⟩
 ·rw [iy,iy,BU,hf];exact Cc λ x=>by simp only [List.mem_append,qW,List.mem_cons,List.not_mem_nil,or_false];exact or_comm
 ·have e1:dQ (BF q p)=0 ↔ gvL ckG [] (BF q p) ()=.ok ():=⟨λ h=>(vn h).2,BR hm⟩
  have e2:dQ p=0 ↔ gvL ckG [] p ()=.ok ():=⟨λ h=>(vn h).2,BR hp⟩
  rw [e1,e2,jP,jP,BU,hf,uk];simp only [BF,sJ,twS,kl,deS,List.mem_cons,forall_eq_or_imp,List.nil_append,ht,hg,true_implies,ne_eq,not_true_eq_false,false_implies,List.not_mem_nil,not_false_eq_true,and_true,true_and,if_true];have hgd:giv [100,111,99]=true:=by decide
  simp only [hgd,true_and,List.length_nil];unfold lV;constructor
  ·rintro ⟨a,b,c⟩;exact ⟨⟨a,b,by omega⟩,by omega⟩
  ·rintro ⟨⟨a,b,c⟩,d⟩;exact ⟨a,b,by omega⟩
end
end Go.Proofs.YtgmnmnnoahdjnaaGreatDoor
