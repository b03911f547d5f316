import Derived.Test.YtgmnmnnoahdjnaaGreatDoorC17
import Derived.Lib.SlicesCompact
import Derived.Deep.CutBlock
open Go.Value renaming int → Zi, slice → Zs, string → Zt, pointer → Zp
open Go.IntKind renaming i64 → Zq
set_option maxRecDepth 100000
set_option maxHeartbeats 16000000
set_option linter.unusedVariables false
set_option linter.unusedSimpArgs false
namespace Go.Proofs.YtgmnmnnoahdjnaaGreatDoor
section
mutual
/-- the names in an expression,from the left -/
def cY:EJ->List (List UInt8) | .mk k _ s kids=>bI kids++(if k=2 then [s] else [])
def bI:List EJ->List (List UInt8) | []=>[] | x::r=>cY x++bI r
end
theorem kD:∀ a b:List EJ,bI (a++b)=bI a++bI b
 | [],b=>by simp [bI]
 | x::r,b=>by rw [List.cons_append,bI,bI,kD r b,List.append_assoc]
theorem mA {xs:List EJ} {i:Nat} {x:EJ} (h:xs[i]? = some x):bI (xs.take (i+1))=bI (xs.take i)++cY x/\bI xs=bI (xs.take i)++(cY x++bI (xs.drop (i+1))):=by
 have e:bI (xs.take (i+1))=bI (xs.take i)++cY x:=by rw [List.take_add_one,h,kD];show _++bI [x]=_;rw [bI,bI,List.append_nil]
 refine ⟨e,?_⟩;have h2:=kD (xs.take (i+1)) (xs.drop (i+1));rw [List.take_append_drop,e,List.append_assoc] at h2;exact h2
mutual
theorem ed:∀ x:EJ,(cY x).length<=bZ x
 | .mk k v s kids=>by
  have:=nS kids;rw [cY,bZ,List.length_append];split<;>simp<;>omega
theorem nS:∀ l:List EJ,(bI l).length<=bM l
 | []=>by simp [bI]
 |x::r=>by
  have h1:=ed x;have h2:=nS r;rw [bI,bM,List.length_append];omega
end
structure uX (σ:Type) where
 nm:σ->List UInt8->List (List UInt8)->Except Int σ
 lp:σ->List UInt8->List (List UInt8)->Except Int σ
def thn {σ τ:Type} (a:Except Int σ) (f:σ->Except Int τ):Except Int τ:=match a with | .ok x=>f x | .error e=>.error e
section
variable {σ τ:Type}
theorem bO (x:σ) (f:σ->Except Int τ):thn (.ok x) f=f x:=rfl
theorem dm (e:Int) (f:σ->Except Int τ):thn (.error e:Except Int σ) f=.error e:=rfl
theorem tF {υ:Type} (a:Except Int σ) (f:σ->Except Int τ) (g:τ->Except Int υ):thn (thn a f) g=thn a λ x=>thn (f x) g:=by cases a<;>rfl
variable (g:uX σ)
def gvN (bd:List (List UInt8)):σ->List (List UInt8)->Except Int σ
 | st,[]=>.ok st
 | st,t::r=>thn (g.nm st t bd) λ st'=>gvN bd st' r
theorem jW (bd:List (List UInt8)):∀ (st:σ) (l l':List (List UInt8)),gvN g bd st (l++l')=thn (gvN g bd st l) λ st'=>gvN g bd st' l'
 | st,[],l'=>rfl
 |st,t::r,l'=>by
  rw [List.cons_append,gvN,gvN,tF];congr 1;funext x;exact jW bd x r l'
mutual
def gvS (bd:List (List UInt8)):SJ->σ->Except Int σ
 | .mk k s a b body els,st=>thn (gvN g bd st (cY a++cY b)) λ st1 =>
   thn (if k=3 then thn (g.lp st1 s bd) λ st2=>gvL (bd++[s]) body st2 else gvL bd body st1) λ st3=>gvL bd els st3
def gvL (bd:List (List UInt8)):List SJ->σ->Except Int σ
 | [],st=>.ok st
 | x::r,st=>thn (gvS bd x st) λ st'=>gvL bd r st'
end
theorem pa (bd:List (List UInt8)):∀ (l l':List SJ) (st:σ),gvL g bd (l++l') st=thn (gvL g bd l st) λ st'=>gvL g bd l' st'
 | [],l',st=>by rw [List.nil_append,gvL];rfl
 |x::r,l',st=>by
  rw [List.cons_append,gvL,gvL,tF];congr 1;funext y;exact pa bd r l' y
theorem vN (bd:List (List UInt8)) {l:List SJ} {i:Nat} {x:SJ} (h:l[i]? = some x) (st:σ):gvL g bd (l.take (i+1)) st=thn (gvL g bd (l.take i) st) λ st'=>gvS g bd x st':=by
 rw [List.take_add_one,h,pa];congr 1;funext y;show gvL g bd [x] y=_
 rw [gvL];cases gvS g bd x y<;>rfl
theorem jV (bd:List (List UInt8)) {l:List SJ} {i:Nat} {st:σ} {e:Int} (h:gvL g bd (l.take i) st=.error e):gvL g bd l st=.error e:=by
 rw [← List.take_append_drop i l,pa,h];rfl
theorem qs (bd:List (List UInt8)) {l l':List (List UInt8)} {st:σ} {e:Int} (h:gvN g bd st l=.error e) (hp:l <+: l'):gvN g bd st l'=.error e:=by
 obtain ⟨r,rfl⟩:=hp;rw [jW,h];rfl
end
def giv (t:List UInt8):Bool:=t == [100,111,99] || t == [105,100]
def ckG:uX Unit:=⟨λ _ t bd=>if giv t=true∨t ∈ bd then .ok () else .error 340,λ _ t bd=>if giv t=true∨t ∈ bd then .error 341 else if 2<=bd.length then .error 342 else .ok ()⟩
def iu:Except Int Unit->Int | .ok _=>0 | .error e=>e
def dQ (l:List SJ):Int:=if fG l=true then iu (gvL ckG [] l ()) else 332
def frG:uX (List (List UInt8)):=⟨λ st t bd=>.ok (if t ∈ bd then st else st++[t]),λ st _ _=>.ok st⟩
def Bj {σ:Type} (d:σ):Except Int σ->σ | .ok x=>x | .error _=>d
def mO (l:List (List UInt8)):List (List UInt8):=Lib.compact (l.mergeSort λ x y=>decide (x<=y))
def kX (l:List SJ):List (List UInt8):=mO (Bj [] (gvL frG [] l []))
def loG:uX Nat:=⟨λ st _ _=>.ok st,λ st _ bd=>.ok (max st (bd.length+1))⟩
def fd (l:List SJ):Nat:=Bj 0 (gvL loG [] l 0)
mutual
def frS (bd:List (List UInt8)):SJ->List (List UInt8)
 | .mk k s a b body els=>(cY a++cY b).filter (λ t=>decide (t ∉ bd))++((if k=3 then fX (bd++[s]) body else fX bd body)++fX bd els)
def fX (bd:List (List UInt8)):List SJ->List (List UInt8)
 | []=>[]
 | x::r=>frS bd x++fX bd r
end
theorem vF (bd:List (List UInt8)):∀ (l st:List (List UInt8)),gvN frG bd st l=.ok (st++l.filter (λ t=>decide (t ∉ bd)))
 | [],st=>by simp [gvN]
 |t::r,st=>by
  rw [gvN];show thn (.ok (if t ∈ bd then st else st++[t])) _=_
  rw [bO,vF bd r];by_cases h:t ∈ bd
  ·simp [h]
  ·simp [h]
mutual
theorem zF (bd:List (List UInt8)):∀ (x:SJ) (st:List (List UInt8)),gvS frG bd x st=.ok (st++frS bd x)
 | .mk k s a b body els,st=>by
  rw [gvS,vF,bO,frS];by_cases hk:k=3
  ·rw [if_pos hk,if_pos hk];show thn (thn (.ok _) _) _=_
   rw [bO,gQ _ body,bO,gQ _ els,List.append_assoc,List.append_assoc]
  ·rw [if_neg hk,if_neg hk,gQ _ body,bO,gQ _ els,List.append_assoc,List.append_assoc]
theorem gQ (bd:List (List UInt8)):∀ (l:List SJ) (st:List (List UInt8)),gvL frG bd l st=.ok (st++fX bd l)
 | [],st=>by rw [gvL,fX,List.append_nil]
 | x::r,st=>by rw [gvL,zF bd x,bO,gQ bd r,fX,List.append_assoc]
end
theorem iy (l:List SJ):kX l=mO (fX [] l):=by unfold kX;rw [gQ];rfl
mutual
/-- how many loops stand within one another -/
def deS:SJ->Nat | .mk k _ _ _ body els=>max (kl body+(if k=3 then 1 else 0)) (kl els)
def kl:List SJ->Nat | []=>0 | x::r=>max (deS x) (kl r)
end
def upD (n d:Nat):Nat:=if d=0 then 0 else n+d
theorem pF (n a b:Nat):upD n (max a b)=max (upD n a) (upD n b):=by
 unfold upD;split<;>split<;>split<;>omega
theorem we (bd:List (List UInt8)):∀ (l:List (List UInt8)) (st:Nat),gvN loG bd st l=.ok st
 | [],st=>rfl
 | t::r,st=>by rw [gvN];exact we bd r st
mutual
theorem zO (bd:List (List UInt8)):∀ (x:SJ) (st:Nat),gvS loG bd x st=.ok (max st (upD bd.length (deS x)))
 | .mk k s a b body els,st=>by
  rw [gvS,we,bO,deS];by_cases hk:k=3
  ·rw [if_pos hk,if_pos hk];show thn (thn (.ok (max st (bd.length+1))) _) _=_
   rw [bO,gV _ body,bO,gV _ els,pF];congr 1;rw [List.length_append,List.length_singleton,← Nat.max_assoc];congr 1;unfold upD;split<;>split<;>omega
  ·rw [if_neg hk,if_neg hk,gV _ body,bO,gV _ els,Nat.add_zero,pF,Nat.max_assoc]
theorem gV (bd:List (List UInt8)):∀ (l:List SJ) (st:Nat),gvL loG bd l st=.ok (max st (upD bd.length (kl l)))
 | [],st=>by rw [gvL,kl];simp [upD]
 | x::r,st=>by rw [gvL,zO bd x,bO,gV bd r,kl,pF,Nat.max_assoc]
end
theorem uk (l:List SJ):fd l=kl l:=by
 unfold fd;rw [gV];show max 0 (upD 0 (kl l))=_
 unfold upD;split<;>omega
theorem rn:∀ {l l':List (List UInt8)},l.Pairwise (· < ·)->l'.Pairwise (· < ·)->(∀ x,x ∈ l ↔ x ∈ l')->l=l'
 | [],[],_,_,_=>rfl
 | [],y::r,_,_,h=>by have:=(h y).2 List.mem_cons_self;cases this
 | x::r,[],_,_,h=>by have:=(h x).1 List.mem_cons_self;cases this
 |x::r,y::r',h1,h2,h=>by
  rw [List.pairwise_cons] at h1 h2;have e:x=y:=by
   rcases List.mem_cons.1 ((h x).1 List.mem_cons_self) with e | hx
   ·exact e
   rcases List.mem_cons.1 ((h y).2 List.mem_cons_self) with e | hy
   ·exact e.symm
   exact absurd (List.lt_trans (h1.1 y hy) (h2.1 x hx)) (List.lt_irrefl x)
  subst e;congr 1;refine rn h1.2 h2.2 λ z=>⟨λ hz=>?_,λ hz=>?_⟩
  ·rcases List.mem_cons.1 ((h z).1 (List.mem_cons_of_mem _ hz)) with rfl | h3
   ·exact absurd (h1.1 z hz) (List.lt_irrefl z)
   ·exact h3
  ·rcases List.mem_cons.1 ((h z).2 (List.mem_cons_of_mem _ hz)) with rfl | h3
   ·exact absurd (h2.1 z hz) (List.lt_irrefl z)
   ·exact h3
section
variable {d:Array (List UInt8)}
theorem xS {n:Nat} {x:List UInt8}:x ∈ Lib.compactUpTo d n ↔ ∃ i,i<n/\d[i]! = x:=by
 unfold Lib.compactUpTo;rw [List.mem_map];constructor
 ·rintro ⟨i,hi,rfl⟩;rw [List.mem_filter,List.mem_range] at hi;exact ⟨i,hi.1,rfl⟩
 ·rintro ⟨i,hi,rfl⟩
  induction i with
  | zero=>exact ⟨0,by rw [List.mem_filter,List.mem_range];exact ⟨hi,by simp [Lib.keeps]⟩,rfl⟩
  |succ i ih =>
   by_cases hk:d[i+1]! = d[i]!
   ·obtain ⟨j,hj,e⟩:=ih (by omega);exact ⟨j,hj,by rw [hk];exact e⟩
   ·exact ⟨i+1,by rw [List.mem_filter,List.mem_range];exact ⟨hi,by simp [Lib.keeps,hk]⟩,rfl⟩
theorem rD {n:Nat} (h:∀ i j,i<=j->j<n->d[i]! <= d[j]!):(Lib.compactUpTo d n).Pairwise (· < ·):=by
 unfold Lib.compactUpTo;rw [List.pairwise_map];refine ((List.pairwise_lt_range (n:=n)).filter _).imp_of_mem ?_;intro i j hi hj hij;rw [List.mem_filter,List.mem_range] at hj;have hk:d[j]! ≠ d[j-1]! := by
  have:=hj.2;simp [Lib.keeps] at this;rcases this with h | h
  ·omega
  ·exact h
 have h1:=h i (j-1) (by omega) (by omega);have h2:=h (j-1) j (by omega) hj.1;have h3:d[j-1]! < d[j]! := by
  rcases List.le_iff_lt_or_eq.1 h2 with h | h
  ·exact h
  ·exact absurd h.symm hk
 rcases List.le_iff_lt_or_eq.1 h1 with h | h
 ·exact List.lt_trans h h3
 ·rw [h];exact h3
end
theorem qW {l:List (List UInt8)} {x:List UInt8}:x ∈ mO l ↔ x ∈ l:=by
 unfold mO Lib.compact;rw [xS,← (List.mergeSort_perm l λ x y=>decide (x<=y)).mem_iff];constructor
 ·rintro ⟨i,hi,rfl⟩;rw [getElem!_pos _ i (by simpa using hi)];simp
 ·intro h;obtain ⟨i,hi,rfl⟩:=List.getElem_of_mem h;exact ⟨i,hi,by rw [getElem!_pos _ i (by simpa using hi)];simp⟩
theorem qX (l:List (List UInt8)):(mO l).Pairwise (· < ·):=by
 unfold mO Lib.compact;refine rD λ i j hij hj=>?_
 have hs:=List.pairwise_mergeSort (le:=λ x y:List UInt8=>decide (x<=y)) (λ a b c h1 h2=>by simp only [decide_eq_true_eq] at *;exact List.le_trans h1 h2) (λ a b=>by simp only [Bool.or_eq_true,decide_eq_true_eq];exact List.le_total a b) l;rw [getElem!_pos _ i (by simp at hj ⊢;omega),getElem!_pos _ j (by simpa using hj)];rcases Nat.lt_or_ge i j with h | h
 ·have:=(List.pairwise_iff_getElem.1 hs) i j (by omega) (by omega) h;simpa using this
 ·obtain rfl:i=j:=by omega
  exact List.le_refl _
theorem wV (l:List (List UInt8)):(mO l).length<=l.length:=by
 unfold mO;unfold Lib.compact Lib.compactUpTo;rw [List.length_map];refine Nat.le_trans (List.length_filter_le _ _) ?_;rw [List.length_range,List.length_mergeSort];exact Nat.le_refl _
def ud (t:List UInt8) (l:List (List UInt8)):List (List UInt8):=l.takeWhile (λ x=>decide (x<t))++t::l.dropWhile (λ x=>decide (x<t))
def si (out:List (List UInt8)) (t:List UInt8):List (List UInt8):=if t ∈ out then out else ud t out
theorem qy {t x:List UInt8} {l:List (List UInt8)}:x ∈ ud t l ↔ x=t∨x ∈ l:=by
 have h:=List.takeWhile_append_dropWhile (p:=λ x=>decide (x<t)) (l:=l);unfold ud;rw [List.mem_append,List.mem_cons]
 conv=>rhs;rw [← h,List.mem_append]
 constructor
 ·rintro (h | h | h)
  ·exact .inr (.inl h)
  ·exact .inl h
  ·exact .inr (.inr h)
 ·rintro (h | h | h)
  ·exact .inr (.inl h)
  ·exact .inl h
  ·exact .inr (.inr h)
theorem k8 {t:List UInt8}:∀ {l:List (List UInt8)},l.Pairwise (· < ·)->t ∉ l->(ud t l).Pairwise (· < ·)
 | [],_,_=>by simp [ud]
 |x::r,h,ht=>by
  rw [List.pairwise_cons] at h;unfold ud;by_cases hx:x<t
  ·rw [List.takeWhile_cons_of_pos (by simpa using hx),List.dropWhile_cons_of_pos (by simpa using hx),List.cons_append,List.pairwise_cons];have ih:=k8 h.2 (λ hm=>ht (List.mem_cons_of_mem _ hm));refine ⟨λ y hy=>?_,ih⟩;rcases qy.1 hy with rfl | hy
   ·exact hx
   ·exact h.1 y hy
  ·rw [List.takeWhile_cons_of_neg (by simpa using hx),List.dropWhile_cons_of_neg (by simpa using hx),List.nil_append,List.pairwise_cons];have htx:t<x:=by
    rcases List.le_iff_lt_or_eq.1 (List.not_lt.1 hx) with h | h
    ·exact h
    ·exact absurd (h ▸ List.mem_cons_self) ht
   refine ⟨λ y hy=>?_,List.pairwise_cons.2 h⟩;rcases List.mem_cons.1 hy with rfl | hy
   ·exact htx
   ·exact List.lt_trans htx (h.1 y hy)
theorem qq:∀ (l out:List (List UInt8)),out.Pairwise (· < ·)->(l.foldl si out).Pairwise (· < ·)/\∀ x,x ∈ l.foldl si out ↔ x ∈ out∨x ∈ l
 | [],out,h=>⟨h,by simp⟩
 |t::r,out,h=>by
  have h1:(si out t).Pairwise (· < ·)/\∀ x,x ∈ si out t ↔ x ∈ out∨x=t:=by
   unfold si;split
   ·rename_i hm
    exact ⟨h,λ x=>⟨.inl,λ hx=>hx.elim id λ e=>e ▸ hm⟩⟩
   ·rename_i hm
    exact ⟨k8 h hm,λ x=>qy.trans or_comm⟩
  obtain ⟨a,b⟩:=qq r (si out t) h1.1;refine ⟨a,λ x=>?_⟩;rw [List.foldl_cons,b x,h1.2 x,List.mem_cons,or_assoc]
theorem t7 (l:List SJ):(fX [] l).foldl si []=kX l:=by
 rw [iy];obtain ⟨h1,h2⟩:=qq (fX [] l) [] List.Pairwise.nil;exact rn h1 (qX _) λ x=>by rw [h2 x,qW];simp
mutual
def rgS (known:List (List UInt8)) (n:Nat):SJ->Int
 | .mk k s a b body els=>if ∃ t ∈ cY a++cY b,t ∉ known then 340
   else if k=3 then (if s ∈ known then 341 else if n=2 then 342 else if rgL (known++[s]) (n+1) body≠0 then rgL (known++[s]) (n+1) body else rgL known n els)
   else if rgL known n body≠0 then rgL known n body else rgL known n els
def rgL (known:List (List UInt8)) (n:Nat):List SJ->Int
 | []=>0
 | x::r=>if rgS known n x≠0 then rgS known n x else rgL known n r
end
def knw (bd:List (List UInt8)):List (List UInt8):=[100,111,99]::[105,100]::bd
theorem iU {t:List UInt8} {bd:List (List UInt8)}:t ∈ knw bd ↔ (giv t=true∨t ∈ bd):=by
 unfold knw giv;simp [or_assoc]
theorem lQ (bd:List (List UInt8)):∀ l:List (List UInt8),gvN ckG bd () l=if ∃ t ∈ l,t ∉ knw bd then .error 340 else .ok ()
 | []=>by simp [gvN]
 |t::r=>by
  rw [gvN];show thn (if giv t=true∨t ∈ bd then .ok () else .error 340) _=_
  by_cases h:giv t=true∨t ∈ bd
  ·rw [if_pos h,bO,lQ bd r];have:(∃ x ∈ t::r,x ∉ knw bd) ↔ ∃ x ∈ r,x ∉ knw bd:=by
    simp only [List.mem_cons,exists_eq_or_imp];exact ⟨λ h'=>h'.elim (λ h'=>absurd (iU.2 h) h') id,.inr⟩
   by_cases h2:∃ x ∈ r,x ∉ knw bd
   ·rw [if_pos h2,if_pos (this.2 h2)]
   ·rw [if_neg h2,if_neg (λ h'=>h2 (this.1 h'))]
  ·rw [if_neg h,dm,if_pos ⟨t,List.mem_cons_self,λ h'=>h (iU.1 h')⟩]
def e0 (a:Except Int Unit):Prop:=∀ e,a=.error e->e≠0
theorem iv {a:Except Int Unit} {f:Unit->Except Int Unit} (h:e0 a):iu (thn a f)=if iu a≠0 then iu a else iu (f ()):=by
 cases a with
 | ok x=>simp [thn,iu]
 | error e=>have:=h e rfl;simp [thn,iu,this]
theorem lW {a:Except Int Unit} {f:Unit->Except Int Unit} (h:e0 a) (h':e0 (f ())):e0 (thn a f):=by
 cases a with
 | ok x=>exact h'
 | error e=>exact h
theorem BB (bd:List (List UInt8)) (l:List (List UInt8)):e0 (gvN ckG bd () l):=by
 rw [lQ];intro e he;split at he
 ·injection he with he;omega
 ·cases he
theorem AJ (s:List UInt8) (bd:List (List UInt8)):e0 (ckG.lp () s bd):=by
 intro e he;change (if giv s=true∨s ∈ bd then Except.error 341 else if 2<=bd.length then .error 342 else .ok ())=_ at he;split at he
 ·injection he with he;omega
 ·split at he
  ·injection he with he;omega
  ·cases he
mutual
theorem Ag:∀ (x:SJ) (bd:List (List UInt8)),bd.length<=2->rgS (knw bd) bd.length x=iu (gvS ckG bd x ())/\e0 (gvS ckG bd x ())
 | .mk k s a b body els,bd,hb=>by
  have hE:=mN els bd hb;have hB:=mN body bd hb;have hBs:=λ h:bd.length+1<=2=>mN body (bd++[s]) (by simp;omega)
  have hN:=BB bd (cY a++cY b);by_cases hk:k=3
  ·have hL:=AJ s bd;have hmid:e0 (thn (ckG.lp () s bd) λ st2=>gvL ckG (bd++[s]) body st2)/\iu (thn (ckG.lp () s bd) λ st2=>gvL ckG (bd++[s]) body st2)=(if s ∈ knw bd then 341 else if bd.length=2 then 342 else rgL (knw bd++[s]) (bd.length+1) body):=by
    show e0 (thn (if giv s=true∨s ∈ bd then .error 341 else if 2<=bd.length then .error 342 else .ok ()) _)/\iu (thn (if giv s=true∨s ∈ bd then .error 341 else if 2<=bd.length then .error 342 else .ok ()) _)=_
    by_cases h1:giv s=true∨s ∈ bd
    ·rw [if_pos h1,if_pos (iU.2 h1)];exact ⟨λ e he=>by rw [dm] at he;injection he with he;omega,rfl⟩
    ·rw [if_neg h1,if_neg (λ h=>h1 (iU.1 h))];by_cases h2:2<=bd.length
     ·rw [if_pos h2,if_pos (by omega)];exact ⟨λ e he=>by rw [dm] at he;injection he with he;omega,rfl⟩
     ·rw [if_neg h2,if_neg (by omega),bO];have:=hBs (by omega);rw [List.length_append,List.length_singleton] at this;exact ⟨this.2,this.1.symm⟩
   have hmm:e0 (thn (if k=3 then thn (ckG.lp () s bd) λ st2=>gvL ckG (bd++[s]) body st2 else gvL ckG bd body ()) λ st3=>gvL ckG bd els st3):=by rw [if_pos hk];exact lW hmid.1 hE.2
   rw [gvS];refine ⟨?_,lW hN hmm⟩;rw [iv hN,if_pos hk,iv hmid.1,hmid.2,lQ,rgS,if_pos hk,← hE.1];by_cases h1:∃ t ∈ cY a++cY b,t ∉ knw bd
   ·rw [if_pos h1,if_pos h1];simp [iu]
   ·rw [if_neg h1,if_neg h1];simp only [iu,ne_eq,not_true_eq_false,if_false];by_cases h2:s ∈ knw bd
    ·simp [h2]
    ·by_cases h3:bd.length=2
     ·simp [h2,h3]
     ·simp [h2,h3]
  ·have hmm:e0 (thn (if k=3 then thn (ckG.lp () s bd) λ st2=>gvL ckG (bd++[s]) body st2 else gvL ckG bd body ()) λ st3=>gvL ckG bd els st3):=by rw [if_neg hk];exact lW hB.2 hE.2
   rw [gvS];refine ⟨?_,lW hN hmm⟩;rw [iv hN,if_neg hk,iv hB.2,lQ,rgS,if_neg hk,← hE.1,← hB.1];by_cases h1:∃ t ∈ cY a++cY b,t ∉ knw bd
   ·rw [if_pos h1,if_pos h1];simp [iu]
   ·rw [if_neg h1,if_neg h1];simp only [iu,ne_eq,not_true_eq_false,if_false]
theorem mN:∀ (l:List SJ) (bd:List (List UInt8)),bd.length<=2->rgL (knw bd) bd.length l=iu (gvL ckG bd l ())/\e0 (gvL ckG bd l ())
 | [],bd,_=>⟨by rw [rgL,gvL];rfl,λ e he=>by rw [gvL] at he;cases he⟩
 |x::r,bd,hb=>by
  have h1:=Ag x bd hb;have h2:=mN r bd hb;rw [gvL];refine ⟨?_,lW h1.2 h2.2⟩;rw [iv h1.2,rgL,h1.1,h2.1]
end
mutual
def twS (bd:List (List UInt8)):SJ->Prop
 | .mk k s a b body els=>(k=3->giv s=false/\s ∉ bd/\sJ (bd++[s]) body)/\(k≠3->sJ bd body)/\sJ bd els
def sJ (bd:List (List UInt8)):List SJ->Prop
 | []=>True
 | x::r=>twS bd x/\sJ bd r
end
theorem pB {a:Except Int Unit} {f:Unit->Except Int Unit}:thn a f=.ok () ↔ a=.ok ()/\f ()=.ok ():=by
 cases a with
 | ok x=>simp [thn]
 | error e=>simp [thn]
theorem zr {bd l:List (List UInt8)}:gvN ckG bd () l=.ok () ↔ ∀ t ∈ l.filter (λ t=>decide (t ∉ bd)),giv t=true:=by
 rw [lQ];by_cases h:∃ t ∈ l,t ∉ knw bd
 ·rw [if_pos h];obtain ⟨t,h1,h2⟩:=h;refine ⟨λ h=>(by cases h),λ h=>absurd (iU.2 ?_) h2⟩;by_cases hb:t ∈ bd
  ·exact .inr hb
  ·exact .inl (h t (by simp [h1,hb]))
 ·rw [if_neg h];refine ⟨λ _ t ht=>?_,λ _=>rfl⟩;rw [List.mem_filter] at ht;have hk:t ∈ knw bd:=Classical.byContradiction λ hk=>h ⟨t,ht.1,hk⟩
  exact (iU.1 hk).resolve_right (of_decide_eq_true ht.2)
theorem AW {s:List UInt8} {bd:List (List UInt8)}:ckG.lp () s bd=.ok () ↔ giv s=false/\s ∉ bd/\bd.length<2:=by
 show (if giv s=true∨s ∈ bd then Except.error 341 else if 2<=bd.length then .error 342 else .ok ())=_ ↔ _
 by_cases h1:giv s=true∨s ∈ bd
 ·rw [if_pos h1];refine ⟨λ h=>(by cases h),λ h=>?_⟩;rcases h1 with h1 | h1
  ·rw [h.1] at h1;cases h1
  ·exact absurd h1 h.2.1
 ·rw [if_neg h1];have h2:giv s=false/\s ∉ bd:=⟨by rw [Bool.eq_false_iff];exact λ h=>h1 (.inl h),λ h=>h1 (.inr h)⟩
  by_cases h3:2<=bd.length
  ·rw [if_pos h3];exact ⟨λ h=>(by cases h),λ h=>by omega⟩
  ·rw [if_neg h3];exact ⟨λ _=>⟨h2.1,h2.2,by omega⟩,λ _=>rfl⟩
def lV (n d:Nat):Prop:=d=0∨n+d<=2
theorem qd {n a b:Nat}:lV n (max a b) ↔ lV n a/\lV n b:=by unfold lV;omega
mutual
theorem zu:∀ (x:SJ) (bd:List (List UInt8)),gvS ckG bd x ()=.ok () ↔ (∀ t ∈ frS bd x,giv t=true)/\twS bd x/\lV bd.length (deS x)
 | .mk k s a b body els,bd=>by
  rw [gvS,pB,zr,pB,jP els bd,frS,twS,deS,qd];by_cases hk:k=3
  ·rw [if_pos hk,if_pos hk,if_pos hk,pB,AW,jP body (bd++[s])];simp only [List.mem_append,List.length_append,List.length_singleton,hk,ne_eq,not_true_eq_false,false_implies,true_implies,true_and];have:(bd.length<2/\lV (bd.length+1) (kl body)) ↔ lV bd.length (kl body+1):=by unfold lV;omega
   constructor
   ·rintro ⟨h1,⟨⟨g1,g2,g3⟩,f1,f2,f3⟩,e1,e2,e3⟩;exact ⟨λ t ht=>ht.elim (h1 t) λ ht=>ht.elim (f1 t) (e1 t),⟨⟨g1,g2,f2⟩,e2⟩,this.1 ⟨g3,f3⟩,e3⟩
   ·rintro ⟨h1,⟨⟨g1,g2,f2⟩,e2⟩,d1,e3⟩;have d2:=this.2 d1;exact ⟨λ t ht=>h1 t (.inl ht),⟨⟨g1,g2,d2.1⟩,λ t ht=>h1 t (.inr (.inl ht)),f2,d2.2⟩,λ t ht=>h1 t (.inr (.inr ht)),e2,e3⟩
  ·rw [if_neg hk,if_neg hk,if_neg hk,jP body bd];simp only [List.mem_append,hk,ne_eq,not_false_eq_true,false_implies,true_implies,true_and,Nat.add_zero];constructor
   ·rintro ⟨h1,⟨f1,f2,f3⟩,e1,e2,e3⟩;exact ⟨λ t ht=>ht.elim (h1 t) λ ht=>ht.elim (f1 t) (e1 t),⟨f2,e2⟩,f3,e3⟩
   ·rintro ⟨h1,⟨f2,e2⟩,d1,e3⟩;exact ⟨λ t ht=>h1 t (.inl ht),⟨λ t ht=>h1 t (.inr (.inl ht)),f2,d1⟩,λ t ht=>h1 t (.inr (.inr ht)),e2,e3⟩
theorem jP:∀ (l:List SJ) (bd:List (List UInt8)),gvL ckG bd l ()=.ok () ↔ (∀ t ∈ fX bd l,giv t=true)/\sJ bd l/\lV bd.length (kl l)
 | [],bd=>by rw [gvL,fX,sJ,kl];simp [lV]
 |x::r,bd=>by
  rw [gvL,pB,zu x bd,jP r bd,fX,sJ,kl,qd];simp only [List.mem_append];constructor
  ·rintro ⟨⟨a1,a2,a3⟩,b1,b2,b3⟩;exact ⟨λ t ht=>ht.elim (a1 t) (b1 t),⟨a2,b2⟩,a3,b3⟩
  ·rintro ⟨h1,⟨a2,b2⟩,a3,b3⟩;exact ⟨⟨λ t ht=>h1 t (.inl ht),a2,a3⟩,λ t ht=>h1 t (.inr ht),b2,b3⟩
end
theorem vn {p:List SJ} (h:dQ p=0):fG p=true/\gvL ckG [] p ()=.ok ():=by
 unfold dQ at h;by_cases hm:fG p=true
 ·rw [if_pos hm] at h;refine ⟨hm,?_⟩;cases he:gvL ckG [] p () with
  | ok x=>rfl
  | error e=>rw [he] at h;exact absurd h ((mN p [] (by simp)).2 e he)
 ·rw [if_neg hm] at h;cases h
theorem rC {p:List SJ} (h:dQ p=0):(∀ t ∈ kX p,giv t=true)/\fd p<=2:=by
 have h1:=(jP p []).1 (vn h).2;refine ⟨λ t ht=>?_,?_⟩
 ·rw [iy,qW] at ht;exact h1.1 t ht
 ·rw [uk];have:=h1.2.2;unfold lV at this;simp at this;omega
def nmE (s:List UInt8):EJ:=.mk 2 cn s []
end
section
open Go.RowKit
def dj (l:List UInt8) (p:Nat):oO :=
 match l[p]? with
 | some c=>if aN c then fF l p else if a9 c then dP l p else if c.toNat=34 then ie l p else fU l p
 | none=>.inr (0,0)
theorem fO {l:List UInt8} {p:Nat}:∀ {ss:List (List UInt8)} {s:List UInt8},de l p ss=some s->s ∈ ss/\dz l p s=true
 | [],s,h=>by cases h
 |x::r,s,h=>by
  unfold de at h;split at h
  ·rename_i hx;cases h;exact ⟨List.mem_cons_self,hx⟩
  ·have:=fO h;exact ⟨List.mem_cons_of_mem _ this.1,this.2⟩
theorem kc {l:List UInt8} {p:Nat} {k n:Int} {t:List UInt8} {m:Nat} (hp:p<l.length) (h:dj l p=.inl (k,t,n,m)):p<m/\m<=l.length:=by
 unfold dj at h;rw [List.getElem?_eq_getElem hp] at h;simp only at h;split at h
 ·rename_i hc
  have hld:df l[p]=true:=by rw [df,hc];rfl
  have ht:=pg (List.getElem?_eq_getElem hp) hld;have hlen:((l.drop p).takeWhile df).length<=l.length-p:=by
   have:=(List.takeWhile_sublist df (l:=l.drop p)).length_le;simpa using this
  have hpos:0<((l.drop p).takeWhile df).length:=by rw [ht];simp
  unfold fF at h;simp only at h;split at h
  ·simp only [Sum.inl.injEq,Prod.mk.injEq] at h;omega
  ·split at h
   ·simp only [Sum.inl.injEq,Prod.mk.injEq] at h;omega
   ·cases h
 ·split at h
  ·unfold dP at h;simp only at h;split at h
   ·rename_i he
    obtain ⟨m',h1,h2,h3⟩:=pi he;simp only [Sum.inl.injEq,Prod.mk.injEq] at h;rw [h1] at h;simp only [Int.toNat_natCast] at h;omega
   ·cases h
  ·split at h
   ·unfold ie at h;simp only at h;split at h
    ·rename_i he
     obtain ⟨m',h1,h2,h3⟩:=qU he;simp only [Sum.inl.injEq,Prod.mk.injEq] at h;rw [h1] at h;simp only [Int.toNat_natCast] at h;omega
    ·cases h
   ·unfold fU at h;cases hf:de l p bH with
    | none=>rw [hf] at h;cases h
    |some s =>
     rw [hf] at h;simp only [Sum.inl.injEq,Prod.mk.injEq] at h;obtain ⟨hmem,hst⟩:=fO hf;have h1:1<=s.length:=by
      have:∀ x ∈ bH,1<=x.length:=by decide
      exact this s hmem
     unfold dz at hst;have h2:=congrArg List.length (of_decide_eq_true hst);simp at h2;omega
def fo (l:List UInt8):Nat->Nat->List ak × Option (Int × Int)
 | 0,_=>([],none)
 |k+1,p =>
  if cq l p<l.length then
   match dj l (cq l p) with
   | .inl (kd,t,n,m)=>((kd,cq l p,t,n)::(fo l k m).1,(fo l k m).2)
   | .inr e=>([],some e)
  else ([(6,l.length,[],0)],none)
theorem oG (l:List UInt8):∀ (k k' p:Nat),l.length-p<k->l.length-p<k'->fo l k p=fo l k' p
 | 0,_,_,h,_=>by omega
 | _,0,_,_,h=>by omega
 |k+1,k'+1,p,h,h'=>by
  unfold fo;split
  ·rename_i hq
   cases hv:dj l (cq l p) with
   | inr e=>rfl
   |inl r =>
    obtain ⟨kd,t,n,m⟩:=r;have:=kc hq hv;have hg:=iG l p;simp only;rw [oG l k k' m (by omega) (by omega)]
  ·rfl
def cC (l:List UInt8) (p:Nat):List ak × Option (Int × Int):=fo l (l.length+1-p) p
theorem uK {l:List UInt8} {p:Nat} (hp:p<=l.length) (h:¬ cq l p<l.length):cC l p=([(6,l.length,[],0)],none):=by
 unfold cC;obtain ⟨k,hk⟩:∃ k,l.length+1-p=k+1:=⟨l.length-p,by omega⟩
 rw [hk,fo,if_neg h]
theorem uL {l:List UInt8} {p:Nat} (hp:p<=l.length) (h:cq l p<l.length) {e:Int × Int} (hv:dj l (cq l p)=.inr e):cC l p=([],some e):=by
 unfold cC;obtain ⟨k,hk⟩:∃ k,l.length+1-p=k+1:=⟨l.length-p,by omega⟩
 rw [hk,fo,if_pos h,hv]
theorem uM {l:List UInt8} {p:Nat} (hp:p<=l.length) (h:cq l p<l.length) {kd n:Int} {t:List UInt8} {m:Nat} (hv:dj l (cq l p)=.inl (kd,t,n,m)) :
  cC l p=((kd,cq l p,t,n)::(cC l m).1,(cC l m).2):=by
 unfold cC;obtain ⟨k,hk⟩:∃ k,l.length+1-p=k+1:=⟨l.length-p,by omega⟩
 have h1:=kc h hv;have h2:=iG l p;rw [hk,fo,if_pos h,hv];simp only;rw [oG l k (l.length+1-m) m (by omega) (by omega)]
def cZ (c:UInt8):Nat:=if aN c then 0 else if a9 c then 1 else if c.toNat=34 then 2 else 3
theorem nf {l:List UInt8} {p:Nat} {c:UInt8} (h:l[p]? = some c):dj l p=if cZ c=0 then fF l p else if cZ c=1 then dP l p else if cZ c=2 then ie l p else fU l p:=by
 unfold dj cZ;rw [h];simp only;by_cases h1:aN c=true
 ·simp [h1]
 ·by_cases h2:a9 c=true
  ·simp [h1,h2]
  ·by_cases h3:c.toNat=34
   ·simp [h1,h2,h3]
   ·simp [h1,h2,h3]
def mZ (r:oO) (p:Nat):Int × Int × ByteArray × Int × Int × Int :=
 match r with
 | .inl (k,t,n,m)=>(k,p,⟨t.toArray⟩,n,m,0)
 | .inr (q,er)=>(0,0,⟨#[]⟩,0,q,er)
theorem fK.uni {r:oO} {p:Nat} {w:World} {g:Nat} {A:Option Addr} {cap:Nat} {l:List UInt8} {e:Ending} {w':World} (h:fK r p w g A cap l e w') :
  e=.returned (uH (mZ r p).1 (mZ r p).2.1 (mZ r p).2.2.1 (mZ r p).2.2.2.1)/\aP w g A cap l (mZ r p).2.2.2.2.1 (mZ r p).2.2.2.2.2 w':=by
 unfold fK at h;unfold mZ;rcases r with ⟨k,t,n,m⟩ | ⟨q,er⟩
 ·exact h
 ·exact h
theorem oH {l:List UInt8} {p:Nat} (hp:p<l.length) {q er:Int} (h:dj l p=.inr (q,er)):er≠0:=by
 obtain ⟨c,hc⟩:∃ c,l[p]? = some c:=⟨_,List.getElem?_eq_getElem hp⟩
 rw [nf hc] at h;split at h
 ·unfold fF at h;simp only at h;split at h
  ·cases h
  ·split at h
   ·cases h
   ·simp only [Sum.inr.injEq,Prod.mk.injEq] at h;omega
 ·split at h
  ·unfold dP at h;simp only at h;split at h
   ·cases h
   ·rename_i hn;simp only [Sum.inr.injEq,Prod.mk.injEq] at h;rw [← h.2];exact hn
  ·split at h
   ·unfold ie at h;simp only at h;split at h
    ·cases h
    ·rename_i hn;simp only [Sum.inr.injEq,Prod.mk.injEq] at h;rw [← h.2];exact hn
   ·unfold fU at h;split at h
    ·cases h
    ·simp only [Sum.inr.injEq,Prod.mk.injEq] at h;omega
theorem vU (c:UInt8):cZ c<=3:=by unfold cZ;(repeat' split)<;>omega
theorem zI {c:UInt8} (h:cZ c=0):aN c=true:=by
 unfold cZ at h;split at h
 ·assumption
 ·(repeat' split at h)<;>omega
theorem pf {c:UInt8} (h:¬ cZ c=0):aN c=false:=by
 unfold cZ at h;split at h
 ·omega
 ·rename_i hn;simpa using hn
theorem zJ {c:UInt8} (h:cZ c=1):a9 c=true:=by
 unfold cZ at h;split at h
 ·omega
 ·split at h
  ·assumption
  ·split at h<;>omega
theorem tj {c:UInt8} (h:¬ cZ c=1) (h0:¬ cZ c=0):a9 c=false:=by
 have h2:=pf h0;unfold cZ at h;rw [h2,if_neg (by simp)] at h;split at h
 ·exact absurd rfl h
 ·rename_i hn;simpa using hn
theorem zK {c:UInt8} (h:cZ c=2):decide (c.toNat=34)=true:=by
 unfold cZ at h;split at h
 ·omega
 ·split at h
  ·omega
  ·split at h
   ·simpa
   ·omega
theorem yd {c:UInt8} (h:¬ cZ c=2) (h0:¬ cZ c=0) (h1:¬ cZ c=1):decide (c.toNat=34)=false:=by
 have h3:=pf h0;have h4:=tj h1 h0;unfold cZ at h;rw [h3,h4] at h;rw [decide_eq_false_iff_not];intro e;rw [if_neg (by simp),if_neg (by simp),if_pos e] at h;exact h rfl
theorem j7 {fk:Nat} {g:Nat} {A:Option Addr} {cap:Nat} {l:List UInt8} {q:Nat} (r:oO) (h:∀ W,GOK W->VB W g A cap l q 0->Calls Tryz.prog fk #[Zp (some ⟨g,0,none⟩)] W (fK r q W g A cap l)) :
  ∃ (a bb:Int) (s:ByteArray) (d m y:Int),(a,bb,s,d,m,y)=mZ r q/\∀ W,GOK W->VB W g A cap l q 0->Calls Tryz.prog fk #[Zp (some ⟨g,0,none⟩)] W λ e w' =>
   e=.returned (.agg #[Zi Zq a,Zi Zq bb,Zt s,Zi Zq d])/\aP W g A cap l m y w' :=
 ⟨_,_,_,_,_,_,rfl,λ W hG hV=>(h W hG hV).mono λ _ _ hp=>hp.uni⟩
end
section
open Go.RowKit Go.Shelf
attribute [local go_sem] aa ac ae ab Oper.semAt_some
def StV (g:Nat) (A:Option Addr) (cap:Nat) (l:List UInt8) (X Y:World):Prop:=World.grownBy X Y (some g)/\((∃ p why,VB X g A cap l p why)->∃ p why,VB Y g A cap l p why)
theorem StV.of_below {g:Nat} {A:Option Addr} {cap:Nat} {l:List UInt8} {X Y:World} (h:Below X.heap.size X Y):StV g A cap l X Y :=
 ⟨⟨h.os,h.tape,h.output,h.size,λ i hi _=>h.block i hi⟩,λ ⟨p,why,hv⟩=>⟨p,why,hv.keep h⟩⟩
theorem StV.of_step {g:Nat} {A:Option Addr} {cap:Nat} {l:List UInt8} {X Y:World} {p why:Int} (h:aP X g A cap l p why Y):StV g A cap l X Y:=⟨h.2,λ _=>⟨p,why,h.1⟩⟩
def vC (x:ak):Array Value:=#[uH x.1 x.2.1 ⟨x.2.2.1.toArray⟩ x.2.2.2]
def KpV (B0 g rb wb:Nat):World->World->Prop:=aO λ k=>k<B0∨k=g∨k=rb∨k=wb
def yR (g:Nat) (A:Option Addr) (cap:Nat) (l:List UInt8) (p0:Nat) (xs:List ak) (W:World):Prop :=
 xs=(cC l p0).1/\∃ q er:Int,VB W g A cap l q er/\(cC l p0).2=if er=0 then none else some (q,er)
theorem VB.keepOn {S:Nat->Prop} {w W:World} {g:Nat} {A:Option Addr} {cap:Nat} {l:List UInt8} {p why:Int} (h:VB w g A cap l p why) (k:aO S w W) (hg:S g) (hr:Rd W A (am l)):VB W g A cap l p why:=⟨k.blk h.1 hg,hr⟩
theorem rj (w0:World) (g rb wb:Nat) (A:Option Addr) (cap:Nat) (l:List UInt8) (p0:Nat) (k:Nat) (J Jx:List ak->World->Prop) (W:World) (hG:GOK w0) (hr:Rd w0 A (am l)) (hcap:l.length<=cap) (hlen:l.length<=4194304)
  (hp0:p0<=l.length) (hgr:g≠rb) (hgw:g≠wb) (hg0:w0.heap.size<=g) (hW:aO (· < w0.heap.size) w0 W)
  (hJ:∀ s X Y,StV g A cap l X Y->J s X->J s Y)
  (hY:∀ pre x W1,J pre W1->pre++[x] <+: (cC l p0).1->YieldAt Fence.wide 1 Tryz.prog k (vC x) W1 λ e W' =>
   (e=.returned (.bool true)/\J (pre++[x]) W'/\KpV w0.heap.size g rb wb W1 W')∨(e=.returned (.bool false)/\Jx (pre++[x]) W'/\KpV w0.heap.size g rb wb W1 W'))
  (hV:VB W g A cap l p0 0) (hrb:Blk W rb 109 #[Zp (some ⟨g,0,none⟩)]) (hwb:Blk W wb 165 (ll g)) (h0:J [] W) :
  CallsIn Fence.wide 2 Tryz.prog 134 #[.func (.yield k) #[] #[],Zp (some ⟨rb,0,none⟩),Zp (some ⟨wb,0,none⟩)] W λ e W'=>(∃ v,e=.returned v) /\
   ((∃ xs,yR g A cap l p0 xs W'/\J xs W')∨(∃ pre,pre <+: (cC l p0).1/\Jx pre W')):=by
 have HY:=aW hY;have HJ:=aW hJ;have HP:=aW (qQ W g A cap l p0 0 hV hp0 hcap hlen);clear hY hJ;obtain ⟨c1,f1,l1⟩:=hrb.rules;refine callsIn_of_wp Tryz.func134 rfl trivial ?_ rfl;simp only [Tryz.ntmps134,List.size_toArray,List.length_cons,List.length_nil,Nat.reduceAdd,Nat.reduceSub,Array.replicate_succ,Array.replicate_zero,List.push_toArray,List.append_toArray,List.nil_append,List.cons_append];gi_wp2;refine ⟨trivial,CallsIn.mono (callsIn_wide.2 HP.out) ?_⟩;rintro e w1 ⟨rfl,hst1⟩;have hrb1:=hrb.grown hst1.2 (by simpa using hgr.symm);have hwb1:=hwb.grown hst1.2 (by simpa using hgw.symm);have hW1:aO (· < w0.heap.size) w0 w1:=hW.trans ⟨hst1.2.size,λ i hi=>hst1.2.block i (Nat.lt_of_lt_of_le hi hW.1) (by simp;omega)⟩;have hJ1:=HJ.out _ _ _ (StV.of_step hst1) h0;have hV1:=hst1.1;clear hrb hwb hW h0 hV hst1 HP c1 f1 l1;gi_wp2
 gi_loopg [4] (l.length-p0+1) (λ gk _ wr => ∃ (p:Nat) (pre:List ak),cq l p<=l.length/\gk=l.length-p+1/\p<=l.length/\(cC l p0).1=pre++(cC l p).1/\(cC l p0).2=(cC l p).2/\J pre wr/\VB wr g A cap l (cq l p) 0 /\
  Blk wr rb 109 #[Zp (some ⟨g,0,none⟩)]/\Blk wr wb 165 (ll g)/\aO (· < w0.heap.size) w0 wr)
 case atStart=>exact ⟨p0,[],qZ hp0,rfl,hp0,rfl,rfl,hJ1,hV1,hrb1,hwb1,hW1⟩
 case round =>
  obtain ⟨p,pre,hq,hgk,hp,hpre,hend,hJs,hV,hrb,hwb,hK⟩:=hrel;clear hV1 hrb1 hwb1 hW1 hJ1;obtain ⟨wo,rfl⟩:∃ wo:World,wo=wr:=⟨_,rfl⟩
  obtain ⟨c1,f1,l1⟩:=hrb.rules;obtain ⟨c2,f2,l2⟩:=hwb.rules;obtain ⟨c3,f3,l3⟩:=hV.1.rules;unfold cB at c3;unfold ll at c2;have HQ:=aW hq;have HGK:=aW hgk;have HPRE:=aW hpre;have HEND:=aW hend;clear hq hgk hpre hend;obtain ⟨q,hqq⟩:∃ q,cq l p=q:=⟨_,rfl⟩
  have HQQ:=aW hqq;rw [hqq] at hV c3;clear hqq;by_cases hlt:q<l.length
  ·obtain ⟨c,hc⟩:∃ c,l[q]? = some c:=⟨_,List.getElem?_eq_getElem hlt⟩
   have HC:=aW hc;clear hc;gi_wp2;refine wpIn_wide.2 ?_;go_quiet (fail);gi_wp2;refine wpIn_wide.2 ?_;go_step3;go_wp2;go_step3;obtain ⟨W2,hW2⟩:∃ W2,(wo.drewN nq).alloc (.cells #[Zi Zq 0,Zi Zq 0,Zt ⟨#[]⟩,Zi Zq 0] 86)=W2:=⟨_,rfl⟩
   have hb2:Below wo.heap.size wo W2:=by rw [← hW2];exact (ai (Below.refl _ wo) nq).alloc (Nat.le_refl _) _
   have ht2:Blk W2 wo.heap.size 86 #[Zi Zq 0,Zi Zq 0,Zt ⟨#[]⟩,Zi Zq 0]:=by rw [← hW2];exact Blk.new (wo.drewN nq) _ _
   rw [hW2];have HB2:=aW (And.intro hb2 ht2);clear hW2 c1 f1 l1 c2 f2 l2 c3 f3 l3 hb2 ht2;have HWR:=aW (And.intro hJs (And.intro hV (And.intro hrb (And.intro hwb hK))));clear hJs hV hrb hwb hK;obtain ⟨cw,fw,lw⟩:=(HWR.out.2.2.2.1.keep HB2.out.1).rules;unfold ll at cw;go_upto_block 2 with fail;go_cut [4] (λ s4 wx => ∃ (a bb:Int) (s:ByteArray) (d m y:Int),s4=Zp (some ⟨wo.heap.size,0,none⟩)/\Hid ((a,bb,s,d,m,y)=mZ (dj l q) q)/\Blk wx wo.heap.size 86 #[Zi Zq a,Zi Zq bb,Zt s,Zi Zq d]/\VB wx g A cap l m y/\wo.grownBy wx (some g))
   case first =>
    clear cw fw lw;have hV0:=HWR.out.2.1;obtain ⟨b,o,rfl,hbb,hx0⟩:=hV0.byte HC.out;have hGw:GOK wo:=hG.keepOn HWR.out.2.2.2.2 (λ i h=>h);have hk3:=vU c;have hvk:=nf HC.out;have hgl:=hV0.1.lt;have hl0:∀ w,Calls Tryz.prog 122 #[Zi .u8 (c.toNat:Int)] w λ e w'=>e=.returned (.bool (aN c))/\w=w':=λ w=>jy c.toNat w
    have hl1:∀ w,Calls Tryz.prog 123 #[Zi .u8 (c.toNat:Int)] w λ e w'=>e=.returned (.bool (a9 c))/\w=w':=λ w=>ko c.toNat w
    have hl2:∀ w,Calls Tryz.prog 130 #[Zi .u8 (c.toNat:Int)] w λ e w'=>e=.returned (.bool (decide (c.toNat=34)))/\w=w':=λ w=>wh c.toNat w
    have hl3:∀ w,Calls Tryz.prog 132 #[Zi .u8 (c.toNat:Int)] w λ e w'=>e=.returned (.bool true)/\w=w':=λ w=>t6 c.toNat w
    have HVK:=aW hvk;have HL:=aW (And.intro hl0 (And.intro hl1 (And.intro hl2 hl3)));have HX0:=aW hx0;have HVG:=aW (And.intro hV0 hGw);clear hvk hl0 hl1 hl2 hl3 hx0 hV0 hGw;go_wp2;go_loopg [23] 4 (λ gk i wr => ∃ k:Nat,k<=cZ c/\gk=4-k/\i=Zi Zq k/\Below wo.heap.size wo wr/\Blk wr wo.heap.size 86 #[Zi Zq 0,Zi Zq 0,Zt ⟨#[]⟩,Zi Zq 0])
    case atStart=>exact ⟨0,Nat.zero_le _,rfl,rfl,HB2.out.1,HB2.out.2⟩
    case round =>
     obtain ⟨k,hk,hgk,rfl,hbx,htx⟩:=hrel;obtain ⟨c1,f1,l1⟩:=(HWR.out.2.2.1.keep hbx).rules;have hVx:=HVG.out.1.keep hbx;obtain ⟨c3,f3,l3⟩:=hVx.1.rules;unfold cB at c3;have hx:wr.cell? ⟨b,o+q,none⟩=some (Zi .u8 c.toNat):=(hbx.cell (p:=⟨b,o+q,none⟩) hbb).trans HX0.out;have hb3:b<wr.heap.size:=Nat.lt_of_lt_of_le hbb hbx.size;have HGK2:=aW hgk;have HT:=aW (And.intro htx hVx);clear hgk htx hVx;rcases (by omega:k=0∨k=1∨k=2∨k=3) with rfl | rfl | rfl | rfl
     ·by_cases hkk:cZ c=0
      ·obtain ⟨a,bb,s,d,m,y,hR,hN⟩:=j7 (A:=some ⟨b,o,none⟩) (fk:=128) (fF l q) (λ W hG hV=>wk W g _ cap l q hV hlt hcap hlen);have hv:dj l q=fF l q:=by rw [HVK.out,hkk];rfl
       rw [← hv] at hR;have hlt2:=HL.out.1;rw [show aN c=true from zI hkk] at hlt2;have HR:=aW hR;have HN:=aW hN;have HLT:=aW hlt2;clear hv hR hN hlt2;go_wp2;go_quiet ((go_at_call 122;exact Calls.quiet_of_same ((HLT.out _).mono λ e w' h=>⟨h.1,h.2.symm⟩)));obtain ⟨W5,hW5⟩:∃ W5,(wr.alloc (.cells #[.func (.func 122) #[] #[],.func (.func 128) #[Zp (some ⟨g,0,none⟩)] #[]] 164)).drewN nq=W5:=⟨_,rfl⟩
       have hb5:Below wo.heap.size wo W5:=by rw [← hW5];exact ai (hbx.alloc hbx.size _) _
       have ht5:Blk W5 wo.heap.size 86 #[Zi Zq 0,Zi Zq 0,Zt ⟨#[]⟩,Zi Zq 0]:=by rw [← hW5];exact (HT.out.1.alloc _).drewN _
       have hw5:Blk W5 wr.heap.size 164 #[.func (.func 122) #[] #[],.func (.func 128) #[Zp (some ⟨g,0,none⟩)] #[]]:=by rw [← hW5];exact (Blk.new wr _ _).drewN _
       rw [hW5];have H5:=aW (And.intro hb5 ht5);have HC5:=aW (HN.out W5 (HVG.out.2.keep hb5) (HVG.out.1.keep hb5));clear hW5 hb5 ht5 c1 f1 l1 c3 f3 l3 hx hb3;obtain ⟨c6,f6,l6⟩:=hw5.rules;go_wp2_with (go_at_call 128;refine HC5.out.mono ?_;rintro e w6 ⟨rfl,hst⟩;have ht6:=H5.out.2.grown hst.2 (by simp;omega);obtain ⟨c7,f7,l7⟩:=ht6.rules);go_meet
       case rel =>
        have hstR:=(((aP.refl HVG.out.1).keep H5.out.1).trans hst).put4 ht6 (Nat.le_refl _) hgl (Zi Zq a) (Zi Zq bb) (Zt s) (Zi Zq d);exact ⟨a,bb,s,d,m,y,rfl,HR,ht6.put4 _ _ _ _,hstR.1,hstR.2⟩
      ·have hlt2:=HL.out.1;rw [show aN c=false from pf hkk] at hlt2;have HLT:=aW hlt2;clear hlt2;go_wp2;go_quiet ((go_at_call 122;exact Calls.quiet_of_same ((HLT.out _).mono λ e w' h=>⟨h.1,h.2.symm⟩)));go_wp2;go_roundg (4-1)
       case measure=>rw [HGK2.out];omega
       case rel=>exact ⟨1,by omega,rfl,rfl,ai (hbx.alloc hbx.size _) _,(HT.out.1.alloc _).drewN _⟩
     ·by_cases hkk:cZ c=1
      ·obtain ⟨a,bb,s,d,m,y,hR,hN⟩:=j7 (A:=some ⟨b,o,none⟩) (fk:=129) (dP l q) (λ W hG hV=>sd W g _ cap l q hV hlt hcap hlen);have hv:dj l q=dP l q:=by rw [HVK.out,hkk];rfl
       rw [← hv] at hR;have hlt2:=HL.out.2.1;rw [show a9 c=true from zJ hkk] at hlt2;have HR:=aW hR;have HN:=aW hN;have HLT:=aW hlt2;clear hv hR hN hlt2;go_wp2;go_quiet ((go_at_call 123;exact Calls.quiet_of_same ((HLT.out _).mono λ e w' h=>⟨h.1,h.2.symm⟩)));obtain ⟨W5,hW5⟩:∃ W5,(wr.alloc (.cells #[.func (.func 123) #[] #[],.func (.func 129) #[Zp (some ⟨g,0,none⟩)] #[]] 164)).drewN nq=W5:=⟨_,rfl⟩
       have hb5:Below wo.heap.size wo W5:=by rw [← hW5];exact ai (hbx.alloc hbx.size _) _
       have ht5:Blk W5 wo.heap.size 86 #[Zi Zq 0,Zi Zq 0,Zt ⟨#[]⟩,Zi Zq 0]:=by rw [← hW5];exact (HT.out.1.alloc _).drewN _
       have hw5:Blk W5 wr.heap.size 164 #[.func (.func 123) #[] #[],.func (.func 129) #[Zp (some ⟨g,0,none⟩)] #[]]:=by rw [← hW5];exact (Blk.new wr _ _).drewN _
       rw [hW5];have H5:=aW (And.intro hb5 ht5);have HC5:=aW (HN.out W5 (HVG.out.2.keep hb5) (HVG.out.1.keep hb5));clear hW5 hb5 ht5 c1 f1 l1 c3 f3 l3 hx hb3;obtain ⟨c6,f6,l6⟩:=hw5.rules;go_wp2_with (go_at_call 129;refine HC5.out.mono ?_;rintro e w6 ⟨rfl,hst⟩;have ht6:=H5.out.2.grown hst.2 (by simp;omega);obtain ⟨c7,f7,l7⟩:=ht6.rules);go_meet
       case rel =>
        have hstR:=(((aP.refl HVG.out.1).keep H5.out.1).trans hst).put4 ht6 (Nat.le_refl _) hgl (Zi Zq a) (Zi Zq bb) (Zt s) (Zi Zq d);exact ⟨a,bb,s,d,m,y,rfl,HR,ht6.put4 _ _ _ _,hstR.1,hstR.2⟩
      ·have hlt2:=HL.out.2.1;rw [show a9 c=false from tj hkk (by omega)] at hlt2;have HLT:=aW hlt2;clear hlt2;go_wp2;go_quiet ((go_at_call 123;exact Calls.quiet_of_same ((HLT.out _).mono λ e w' h=>⟨h.1,h.2.symm⟩)));go_wp2;go_roundg (4-2)
       case measure=>rw [HGK2.out];omega
       case rel=>exact ⟨2,by omega,rfl,rfl,ai (hbx.alloc hbx.size _) _,(HT.out.1.alloc _).drewN _⟩
     ·by_cases hkk:cZ c=2
      ·obtain ⟨a,bb,s,d,m,y,hR,hN⟩:=j7 (A:=some ⟨b,o,none⟩) (fk:=131) (ie l q) (λ W hG hV=>xm W g _ cap l q hG hV hlt hcap hlen);have hv:dj l q=ie l q:=by rw [HVK.out,hkk];rfl
       rw [← hv] at hR;have hlt2:=HL.out.2.2.1;rw [show decide (c.toNat=34)=true from zK hkk] at hlt2;have HR:=aW hR;have HN:=aW hN;have HLT:=aW hlt2;clear hv hR hN hlt2;go_wp2;go_quiet ((go_at_call 130;exact Calls.quiet_of_same ((HLT.out _).mono λ e w' h=>⟨h.1,h.2.symm⟩)));obtain ⟨W5,hW5⟩:∃ W5,(wr.alloc (.cells #[.func (.func 130) #[] #[],.func (.func 131) #[Zp (some ⟨g,0,none⟩)] #[]] 164)).drewN nq=W5:=⟨_,rfl⟩
       have hb5:Below wo.heap.size wo W5:=by rw [← hW5];exact ai (hbx.alloc hbx.size _) _
       have ht5:Blk W5 wo.heap.size 86 #[Zi Zq 0,Zi Zq 0,Zt ⟨#[]⟩,Zi Zq 0]:=by rw [← hW5];exact (HT.out.1.alloc _).drewN _
       have hw5:Blk W5 wr.heap.size 164 #[.func (.func 130) #[] #[],.func (.func 131) #[Zp (some ⟨g,0,none⟩)] #[]]:=by rw [← hW5];exact (Blk.new wr _ _).drewN _
       rw [hW5];have H5:=aW (And.intro hb5 ht5);have HC5:=aW (HN.out W5 (HVG.out.2.keep hb5) (HVG.out.1.keep hb5));clear hW5 hb5 ht5 c1 f1 l1 c3 f3 l3 hx hb3;obtain ⟨c6,f6,l6⟩:=hw5.rules;go_wp2_with (go_at_call 131;refine HC5.out.mono ?_;rintro e w6 ⟨rfl,hst⟩;have ht6:=H5.out.2.grown hst.2 (by simp;omega);obtain ⟨c7,f7,l7⟩:=ht6.rules);go_meet
       case rel =>
        have hstR:=(((aP.refl HVG.out.1).keep H5.out.1).trans hst).put4 ht6 (Nat.le_refl _) hgl (Zi Zq a) (Zi Zq bb) (Zt s) (Zi Zq d);exact ⟨a,bb,s,d,m,y,rfl,HR,ht6.put4 _ _ _ _,hstR.1,hstR.2⟩
      ·have hlt2:=HL.out.2.2.1;rw [show decide (c.toNat=34)=false from yd hkk (by omega) (by omega)] at hlt2;have HLT:=aW hlt2;clear hlt2;go_wp2;go_quiet ((go_at_call 130;exact Calls.quiet_of_same ((HLT.out _).mono λ e w' h=>⟨h.1,h.2.symm⟩)));go_wp2;go_roundg (4-3)
       case measure=>rw [HGK2.out];omega
       case rel=>exact ⟨3,by omega,rfl,rfl,ai (hbx.alloc hbx.size _) _,(HT.out.1.alloc _).drewN _⟩
     ·by_cases hkk:cZ c=3
      ·obtain ⟨a,bb,s,d,m,y,hR,hN⟩:=j7 (A:=some ⟨b,o,none⟩) (fk:=133) (fU l q) (λ W hG hV=>uP W g _ cap l q hV hlt hcap hlen);have hv:dj l q=fU l q:=by rw [HVK.out,hkk];rfl
       rw [← hv] at hR;have hlt2:=HL.out.2.2.2;have HR:=aW hR;have HN:=aW hN;have HLT:=aW hlt2;clear hv hR hN hlt2;go_wp2;go_quiet ((go_at_call 132;exact Calls.quiet_of_same ((HLT.out _).mono λ e w' h=>⟨h.1,h.2.symm⟩)));obtain ⟨W5,hW5⟩:∃ W5,(wr.alloc (.cells #[.func (.func 132) #[] #[],.func (.func 133) #[Zp (some ⟨g,0,none⟩)] #[]] 164)).drewN nq=W5:=⟨_,rfl⟩
       have hb5:Below wo.heap.size wo W5:=by rw [← hW5];exact ai (hbx.alloc hbx.size _) _
       have ht5:Blk W5 wo.heap.size 86 #[Zi Zq 0,Zi Zq 0,Zt ⟨#[]⟩,Zi Zq 0]:=by rw [← hW5];exact (HT.out.1.alloc _).drewN _
       have hw5:Blk W5 wr.heap.size 164 #[.func (.func 132) #[] #[],.func (.func 133) #[Zp (some ⟨g,0,none⟩)] #[]]:=by rw [← hW5];exact (Blk.new wr _ _).drewN _
       rw [hW5];have H5:=aW (And.intro hb5 ht5);have HC5:=aW (HN.out W5 (HVG.out.2.keep hb5) (HVG.out.1.keep hb5));clear hW5 hb5 ht5 c1 f1 l1 c3 f3 l3 hx hb3;obtain ⟨c6,f6,l6⟩:=hw5.rules;go_wp2_with (go_at_call 133;refine HC5.out.mono ?_;rintro e w6 ⟨rfl,hst⟩;have ht6:=H5.out.2.grown hst.2 (by simp;omega);obtain ⟨c7,f7,l7⟩:=ht6.rules);go_meet
       case rel =>
        have hstR:=(((aP.refl HVG.out.1).keep H5.out.1).trans hst).put4 ht6 (Nat.le_refl _) hgl (Zi Zq a) (Zi Zq bb) (Zt s) (Zi Zq d);exact ⟨a,bb,s,d,m,y,rfl,HR,ht6.put4 _ _ _ _,hstR.1,hstR.2⟩
      ·omega
   case rest =>
    obtain ⟨a,bb,s,d,m,y,rfl,HR,htb,hV3,hg3⟩:=hcut;obtain ⟨hJs,hV,hrb,hwb,hK⟩:=HWR.out;have hrb3:=hrb.grown hg3 (by simpa using hgr.symm);have hwb3:=hwb.grown hg3 (by simpa using hgw.symm);have hK3:aO (· < w0.heap.size) w0 wc:=hK.trans ⟨hg3.size,λ i hi=>hg3.block i (Nat.lt_of_lt_of_le hi hK.1) (by simp;omega)⟩;have hJ3:=HJ.out _ _ _ ⟨hg3,λ _=>⟨m,y,hV3⟩⟩ hJs;clear hJs hV hrb hwb hK HB2 cw fw lw HWR W2;obtain ⟨c1,f1,l1⟩:=hrb3.rules;obtain ⟨c3,f3,l3⟩:=hV3.1.rules;obtain ⟨c4,f4,l4⟩:=htb.rules;unfold cB at c3;cases hvt:dj l q with
    |inr e =>
     obtain ⟨pq,er⟩:=e;have her:=oH hlt hvt;rw [hvt] at HR;obtain ⟨rfl,rfl,rfl,rfl,rfl,rfl⟩:a=0/\bb=0/\s=⟨#[]⟩/\d=0/\m=pq/\y=er:=by simpa [mZ] using HR.out
     have hE:=uL hp (by rw [HQQ.out];exact hlt) (by rw [HQQ.out];exact hvt);have HEE:=aW hE;have HRR:=aW hvt;have her':(y != 0)=true:=by simpa using her
     clear hE hvt HR;go_wp2;rw [Exit.noGoto_ret];gi_wp2;refine bodyPost_ret (results_none rfl _ _ _) rfl ?_;refine ⟨⟨_,rfl⟩,.inl ⟨pre,⟨?_,m,y,hV3,?_⟩,hJ3⟩⟩
     ·rw [HPRE.out,HEE.out,List.append_nil]
     ·rw [HEND.out,HEE.out,if_neg her]
    |inl r =>
     obtain ⟨kd,t,n,m'⟩:=r;rw [hvt] at HR;obtain ⟨rfl,rfl,rfl,rfl,rfl,rfl⟩:a=kd/\bb=q/\s=⟨t.toArray⟩/\d=n/\m=m'/\y=0:=by simpa [mZ] using HR.out
     have hok:=kc hlt hvt;have hE:=uM hp (by rw [HQQ.out];exact hlt) (by rw [HQQ.out];exact hvt);have HEE:=aW hE;have HRR:=aW hvt;clear hE hvt HR;have hadm:pre++[(a,q,t,d)] <+: (cC l p0).1:=by rw [HPRE.out,HEE.out,HQQ.out];exact ⟨(cC l m').1,by simp⟩
     obtain ⟨fn,tmps,assign,body,hy,hR⟩:=HY.out pre _ wc hJ3 hadm;have HAD:=aW hadm;clear hadm;unfold vC uH at hy;simp only at hy;go_upto_region 10 with fail;refine (wpIn_wide (n:=2)).1 ?_;gi_wp2;refine hR.mono ?_;rintro e W4 (⟨rfl,hJ4,hk4⟩ | ⟨rfl,hJx4,hk4⟩)
     ·have hrb4:=hk4.blk hrb3 (.inr (.inr (.inl rfl)));have hwb4:=hk4.blk hwb3 (.inr (.inr (.inr rfl)));have hK4:aO (· < w0.heap.size) w0 W4:=hK3.trans ⟨hk4.1,λ i hi=>hk4.2 i (.inl hi)⟩;have hV4:=hV3.keepOn hk4 (.inr (.inl rfl)) (hr.keepOn hK4 (λ i h=>h));have HP4:=aW (qQ W4 g A cap l m' 0 hV4 hok.2 hcap hlen);obtain ⟨c5,f5,l5⟩:=hrb4.rules;clear c1 f1 l1 c3 f3 l3 c4 f4 l4;gi_wp2;go_wp2;rw [Exit.noGoto_normal];gi_wp2;refine ⟨trivial,CallsIn.mono (callsIn_wide.2 HP4.out) ?_⟩;rintro e w5 ⟨rfl,hst5⟩;have hrb5:=hrb4.grown hst5.2 (by simpa using hgr.symm);have hwb5:=hwb4.grown hst5.2 (by simpa using hgw.symm);have hK5:aO (· < w0.heap.size) w0 w5:=hK4.trans ⟨hst5.2.size,λ i hi=>hst5.2.block i (Nat.lt_of_lt_of_le hi hK4.1) (by simp;omega)⟩;have hJ5:=HJ.out _ _ _ (StV.of_step hst5) hJ4;gi_wp2
      gi_roundg (l.length-m'+1)
      case measure=>rw [HGK.out];have:=iG l p;have:=HQQ.out;omega
      case rel=>exact ⟨m',pre++[(a,q,t,d)],qZ hok.2,rfl,hok.2,by rw [HPRE.out,HEE.out,HQQ.out];simp,by rw [HEND.out,HEE.out],hJ5,hst5.1,hrb5,hwb5,hK5⟩
     ·gi_wp2;go_wp2;rw [Exit.noGoto_ret];gi_wp2;refine bodyPost_ret (results_none rfl _ _ _) rfl ?_;exact ⟨⟨_,rfl⟩,.inr ⟨_,HAD.out,hJx4⟩⟩
  ·have hE:=uK hp (by rw [HQQ.out];exact hlt);have hql:=HQ.out;rw [HQQ.out] at hql;obtain rfl:q=l.length:=by omega
   have HEE:=aW hE;have HQL:=aW hql;clear hE hlt hql;gi_wp2;refine wpIn_wide.2 ?_;go_quiet (fail);obtain ⟨fn,tmps,assign,body,hy,hR⟩:=HY.out pre ((6,l.length,[],0):ak) (wo.drewN nq) (HJ.out _ _ _ (StV.of_below (ai (Below.refl _ wo) nq)) hJs) (by rw [HPRE.out,HEE.out];exact List.prefix_refl _);unfold vC uH at hy;simp only at hy;gi_wp2;refine hR.mono ?_;rintro e W4 (⟨rfl,hJ4,hk4⟩ | ⟨rfl,hJx4,hk4⟩)
   ·have hK4:aO (· < w0.heap.size) w0 W4:=hK.trans ⟨hk4.1,λ i hi=>hk4.2 i (.inl hi)⟩;have hV4:=(hV.drewN nq).keepOn hk4 (.inr (.inl rfl)) (hr.keepOn hK4 (λ i h=>h));have HF:=aW (And.intro hV4 hJ4);clear hK4 hV4 hk4 hJ4;gi_wp2;go_end0;refine ⟨⟨_,rfl⟩,.inl ⟨_,⟨?_,_,0,HF.out.1,?_⟩,HF.out.2⟩⟩
    ·rw [HPRE.out,HEE.out]
    ·rw [HEND.out,HEE.out,if_pos rfl]
   ·gi_wp2;go_end0;exact ⟨⟨_,rfl⟩,.inr ⟨_,by rw [HPRE.out,HEE.out];exact List.prefix_refl _,hJx4⟩⟩
end
end Go.Proofs.YtgmnmnnoahdjnaaGreatDoor
