import Derived.Test.YtgmnmnnoahdjnaaGreatDoorC23
import Derived.Test.YtgmnmnnoahdjnaaGreatDoorD02
set_option maxRecDepth 100000
set_option maxHeartbeats 16000000
set_option linter.unusedVariables false
set_option linter.unusedSimpArgs false
namespace Go.Proofs.YtgmnmnnoahdjnaaGreatDoor
section
section
variable {d:Array (List UInt8)}
end
theorem BV {l l':List (List UInt8)} (h:∀ x,x ∈ l ↔ x ∈ l'):mO l=mO l':=rn (qX l) (qX l') λ x=>by rw [qW,qW,h x]
theorem BQ (l:List SJ):dQ l=if fG l=true then rgL (knw []) 0 l else 332:=by
 unfold dQ;rw [← (mN l [] (by simp)).1];rfl
theorem BR {p q:List SJ} (hp:fG p=true) (hq:fG q=true):fG (p++q)=true/\dQ (p++q)=if dQ p≠0 then dQ p else dQ q:=by
 have hm:fG (p++q)=true:=by
  unfold fG at *;rw [my] at *;intro x hx;rcases List.mem_append.1 hx with h | h
  ·exact hp x h
  ·exact hq x h
 refine ⟨hm,?_⟩;unfold dQ;rw [if_pos hm,if_pos hp,if_pos hq,pa,iv (mN p [] (by simp)).2]
theorem BI {p q:List SJ} (h:fG (p++q)=true):fG p=true/\fG q=true:=by
 unfold fG at *;rw [my] at *;rw [my];exact ⟨λ x hx=>h x (List.mem_append_left _ hx),λ x hx=>h x (List.mem_append_right _ hx)⟩
theorem BM (bd:List (List UInt8)):∀ p q:List SJ,fX bd (p++q)=fX bd p++fX bd q
 | [],q=>by simp [fX]
 | x::r,q=>by rw [List.cons_append,fX,fX,BM bd r q,List.append_assoc]
theorem BL:∀ p q:List SJ,kl (p++q)=max (kl p) (kl q)
 | [],q=>by simp [kl]
 | x::r,q=>by rw [List.cons_append,kl,kl,BL r q,Nat.max_assoc]
theorem BN (p q:List SJ):mO (kX p++kX q)=kX (p++q):=by
 rw [iy,iy,iy,BM];exact BV λ x=>by simp only [List.mem_append,qW]
end
end Go.Proofs.YtgmnmnnoahdjnaaGreatDoor
