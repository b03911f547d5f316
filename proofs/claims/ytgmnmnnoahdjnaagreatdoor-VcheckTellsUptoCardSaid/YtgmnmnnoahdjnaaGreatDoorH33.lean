import Derived.Test.YtgmnmnnoahdjnaaGreatDoorH30
import Derived.Lib.SlicesCompact
open Go.Value renaming int → Zi, slice → Zs, string → Zt, pointer → Zp
open Go.IntKind renaming i64 → Zq
set_option maxRecDepth 100000
set_option maxHeartbeats 16000000
set_option linter.unusedVariables false
set_option linter.unusedSimpArgs false
namespace Go.Proofs.YtgmnmnnoahdjnaaGreatDoor
section
mutual
/-- the names in an expression,from the left -/
def aF:EJ->List (List UInt8) | .mk k _ s kids=>aK kids++(if k=2 then [s] else [])
def aK:List EJ->List (List UInt8) | []=>[] | x::r=>aF x++aK r
end
theorem gD:∀ a b:List EJ,aK (a++b)=aK a++aK b
 | [],b=>by simp [aK]
 | x::r,b=>by rw [List.cons_append,aK,aK,gD r b,List.append_assoc]
theorem iF {xs:List EJ} {i:Nat} {x:EJ} (h:xs[i]? = some x):aK (xs.take (i+1))=aK (xs.take i)++aF x/\aK xs=aK (xs.take i)++(aF x++aK (xs.drop (i+1))):=by
 have e:aK (xs.take (i+1))=aK (xs.take i)++aF x:=by rw [List.take_add_one,h,gD];show _++aK [x]=_;rw [aK,aK,List.append_nil]
 refine ⟨e,?_⟩;have h2:=gD (xs.take (i+1)) (xs.drop (i+1));rw [List.take_append_drop,e,List.append_assoc] at h2;exact h2
mutual
theorem bj:∀ x:EJ,(aF x).length<=bG x
 | .mk k v s kids=>by
  have:=jh kids;rw [aF,bG,List.length_append];split<;>simp<;>omega
theorem jh:∀ l:List EJ,(aK l).length<=cj l
 | []=>by simp [aK]
 |x::r=>by
  have h1:=bj x;have h2:=jh r;rw [aK,cj,List.length_append];omega
end
structure rT (σ:Type) where
 nm:σ->List UInt8->List (List UInt8)->Except Int σ
 lp:σ->List UInt8->List (List UInt8)->Except Int σ
def thn {σ τ:Type} (a:Except Int σ) (f:σ->Except Int τ):Except Int τ:=match a with | .ok x=>f x | .error e=>.error e
section
variable {σ τ:Type}
theorem bq (x:σ) (f:σ->Except Int τ):thn (.ok x) f=f x:=rfl
theorem cE (e:Int) (f:σ->Except Int τ):thn (.error e:Except Int σ) f=.error e:=rfl
theorem qD {υ:Type} (a:Except Int σ) (f:σ->Except Int τ) (g:τ->Except Int υ):thn (thn a f) g=thn a λ x=>thn (f x) g:=by cases a<;>rfl
variable (g:rT σ)
def gvN (bd:List (List UInt8)):σ->List (List UInt8)->Except Int σ
 | st,[]=>.ok st
 | st,t::r=>thn (g.nm st t bd) λ st'=>gvN bd st' r
theorem iA (bd:List (List UInt8)):∀ (st:σ) (l l':List (List UInt8)),gvN g bd st (l++l')=thn (gvN g bd st l) λ st'=>gvN g bd st' l'
 | st,[],l'=>rfl
 |st,t::r,l'=>by
  rw [List.cons_append,gvN,gvN,qD];congr 1;funext x;exact iA bd x r l'
mutual
def gvS (bd:List (List UInt8)):SJ->σ->Except Int σ
 | .mk k s a b body els,st=>thn (gvN g bd st (aF a++aF b)) λ st1 =>
   thn (if k=3 then thn (g.lp st1 s bd) λ st2=>gvL (bd++[s]) body st2 else gvL bd body st1) λ st3=>gvL bd els st3
def gvL (bd:List (List UInt8)):List SJ->σ->Except Int σ
 | [],st=>.ok st
 | x::r,st=>thn (gvS bd x st) λ st'=>gvL bd r st'
end
theorem mF (bd:List (List UInt8)):∀ (l l':List SJ) (st:σ),gvL g bd (l++l') st=thn (gvL g bd l st) λ st'=>gvL g bd l' st'
 | [],l',st=>by rw [List.nil_append,gvL];rfl
 |x::r,l',st=>by
  rw [List.cons_append,gvL,gvL,qD];congr 1;funext y;exact mF bd r l' y
theorem sK (bd:List (List UInt8)) {l:List SJ} {i:Nat} {x:SJ} (h:l[i]? = some x) (st:σ):gvL g bd (l.take (i+1)) st=thn (gvL g bd (l.take i) st) λ st'=>gvS g bd x st':=by
 rw [List.take_add_one,h,mF];congr 1;funext y;show gvL g bd [x] y=_
 rw [gvL];cases gvS g bd x y<;>rfl
theorem iz (bd:List (List UInt8)) {l:List SJ} {i:Nat} {st:σ} {e:Int} (h:gvL g bd (l.take i) st=.error e):gvL g bd l st=.error e:=by
 rw [← List.take_append_drop i l,mF,h];rfl
theorem nL (bd:List (List UInt8)) {l l':List (List UInt8)} {st:σ} {e:Int} (h:gvN g bd st l=.error e) (hp:l <+: l'):gvN g bd st l'=.error e:=by
 obtain ⟨r,rfl⟩:=hp;rw [iA,h];rfl
end
def giv (t:List UInt8):Bool:=t == [100,111,99] || t == [105,100]
def ckG:rT Unit:=⟨λ _ t bd=>if giv t=true∨t ∈ bd then .ok () else .error 340,λ _ t bd=>if giv t=true∨t ∈ bd then .error 341 else if 2<=bd.length then .error 342 else .ok ()⟩
def fN:Except Int Unit->Int | .ok _=>0 | .error e=>e
def cX (l:List SJ):Int:=if ff l=true then fN (gvL ckG [] l ()) else 332
def frG:rT (List (List UInt8)):=⟨λ st t bd=>.ok (if t ∈ bd then st else st++[t]),λ st _ _=>.ok st⟩
def xW {σ:Type} (d:σ):Except Int σ->σ | .ok x=>x | .error _=>d
def kN (l:List (List UInt8)):List (List UInt8):=Lib.compact (l.mergeSort λ x y=>decide (x<=y))
def gM (l:List SJ):List (List UInt8):=kN (xW [] (gvL frG [] l []))
def loG:rT Nat:=⟨λ st _ _=>.ok st,λ st _ bd=>.ok (max st (bd.length+1))⟩
def dJ (l:List SJ):Nat:=xW 0 (gvL loG [] l 0)
mutual
def frS (bd:List (List UInt8)):SJ->List (List UInt8)
 | .mk k s a b body els=>(aF a++aF b).filter (λ t=>decide (t ∉ bd))++((if k=3 then bB (bd++[s]) body else bB bd body)++bB bd els)
def bB (bd:List (List UInt8)):List SJ->List (List UInt8)
 | []=>[]
 | x::r=>frS bd x++bB bd r
end
theorem sF (bd:List (List UInt8)):∀ (l st:List (List UInt8)),gvN frG bd st l=.ok (st++l.filter (λ t=>decide (t ∉ bd)))
 | [],st=>by simp [gvN]
 |t::r,st=>by
  rw [gvN];show thn (.ok (if t ∈ bd then st else st++[t])) _=_
  rw [bq,sF bd r];by_cases h:t ∈ bd
  ·simp [h]
  ·simp [h]
mutual
theorem wj (bd:List (List UInt8)):∀ (x:SJ) (st:List (List UInt8)),gvS frG bd x st=.ok (st++frS bd x)
 | .mk k s a b body els,st=>by
  rw [gvS,sF,bq,frS];by_cases hk:k=3
  ·rw [if_pos hk,if_pos hk];show thn (thn (.ok _) _) _=_
   rw [bq,fq _ body,bq,fq _ els,List.append_assoc,List.append_assoc]
  ·rw [if_neg hk,if_neg hk,fq _ body,bq,fq _ els,List.append_assoc,List.append_assoc]
theorem fq (bd:List (List UInt8)):∀ (l:List SJ) (st:List (List UInt8)),gvL frG bd l st=.ok (st++bB bd l)
 | [],st=>by rw [gvL,bB,List.append_nil]
 | x::r,st=>by rw [gvL,wj bd x,bq,fq bd r,bB,List.append_assoc]
end
theorem iv (l:List SJ):gM l=kN (bB [] l):=by unfold gM;rw [fq];rfl
mutual
/-- how many loops stand within one another -/
def deS:SJ->Nat | .mk k _ _ _ body els=>max (cV body+(if k=3 then 1 else 0)) (cV els)
def cV:List SJ->Nat | []=>0 | x::r=>max (deS x) (cV r)
end
def upD (n d:Nat):Nat:=if d=0 then 0 else n+d
theorem mY (n a b:Nat):upD n (max a b)=max (upD n a) (upD n b):=by
 unfold upD;split<;>split<;>split<;>omega
theorem sX (bd:List (List UInt8)):∀ (l:List (List UInt8)) (st:Nat),gvN loG bd st l=.ok st
 | [],st=>rfl
 | t::r,st=>by rw [gvN];exact sX bd r st
mutual
theorem wG (bd:List (List UInt8)):∀ (x:SJ) (st:Nat),gvS loG bd x st=.ok (max st (upD bd.length (deS x)))
 | .mk k s a b body els,st=>by
  rw [gvS,sX,bq,deS];by_cases hk:k=3
  ·rw [if_pos hk,if_pos hk];show thn (thn (.ok (max st (bd.length+1))) _) _=_
   rw [bq,fv _ body,bq,fv _ els,mY];congr 1;rw [List.length_append,List.length_singleton,← Nat.max_assoc];congr 1;unfold upD;split<;>split<;>omega
  ·rw [if_neg hk,if_neg hk,fv _ body,bq,fv _ els,Nat.add_zero,mY,Nat.max_assoc]
theorem fv (bd:List (List UInt8)):∀ (l:List SJ) (st:Nat),gvL loG bd l st=.ok (max st (upD bd.length (cV l)))
 | [],st=>by rw [gvL,cV];simp [upD]
 | x::r,st=>by rw [gvL,wG bd x,bq,fv bd r,cV,mY,Nat.max_assoc]
end
theorem ra (l:List SJ):dJ l=cV l:=by
 unfold dJ;rw [fv];show max 0 (upD 0 (cV l))=_
 unfold upD;split<;>omega
end
section
open Go.RowKit Go.Shelf
attribute [local go_sem] ab ae af ac Oper.semAt_some
def d4:Fence:={ fn:=λ f=>f<Tryz.prog.funcs.size,depth:=none,alive:=false }
theorem aC {f:FuncId} (h:decide (f<Tryz.prog.funcs.size)=true):d4.fn f:=show f<Tryz.prog.funcs.size from of_decide_eq_true h
theorem dF:d4.round=none:=rfl
theorem dE:d4.depth=none:=rfl
attribute [local go_sem] dF dE
theorem sD:∀ f,d4.fn f->∃ fn,Tryz.prog.funcs[f]? = some fn:=λ f h=>⟨_,Array.getElem?_eq_getElem h⟩
theorem dm {n m:Nat} {f:FuncId} {args:Array Value} {w:World} {R:Ending->World->Prop} (h:CallsIn d4 n Tryz.prog f args w R):CallsIn d4 m Tryz.prog f args w R:=⟨h.1,λ cs _=>h.2 cs (λ d hd=>by cases hd)⟩
theorem p9 (s:ByteArray) (w:World) (a b:Bool) (ha:(s.toList == [100,111,99])=a) (hb:(s.toList == [105,100])=b):CallsIn d4 1 Tryz.prog 59 #[Zt s] w λ e w'=>e=.returned (.bool (a || b))/\w'=w:=by
 refine callsIn_of_wp Tryz.func59 rfl (aC (by kernel_rfl)) ?_ rfl;simp only [Tryz.ntmps59,List.size_toArray,List.length_cons,List.length_nil,Nat.reduceAdd,Nat.reduceSub,Array.replicate_succ,Array.replicate_zero,List.push_toArray,List.append_toArray,List.nil_append,List.cons_append];cases a
 all_goals
  gi_wp2;go_ret;exact ⟨by simp,rfl⟩
theorem um (l:List (List UInt8)) (t:List UInt8) (A:Option Addr) (n ca:Nat) (w:World) (hl:l.length=n) (hn:n<=4194304) (hR:Rd w A (ar l)) :
  CallsIn d4 1 Tryz.prog 72 #[Zs A n ca,Zt ⟨t.toArray⟩] w λ e w' => ∃ i:Int,e=.returned (Zi Zq i)/\w'=w/\(0<=i ↔ t ∈ l):=by
 have HR:=aW hR;have HL:=aW hl;clear hR hl;refine callsIn_of_wp Tryz.func72 rfl (aC (by kernel_rfl)) ?_ rfl;simp only [Tryz.ntmps72,List.size_toArray,List.length_cons,List.length_nil,Nat.reduceAdd,Nat.reduceSub,Array.replicate_succ,Array.replicate_zero,List.push_toArray,List.append_toArray,List.nil_append,List.cons_append];gi_wp2
 gi_loopg [8] n (λ gk s8 wr => ∃ i:Nat,i<=n/\gk=n-i/\s8=Zi Zq (i:Int)/\wr=w/\Hid (∀ j s,j<i->l[j]? = some s->s≠t))
 case atStart=>exact ⟨0,Nat.zero_le _,rfl,by go_num,rfl,aW (λ j s h=>by omega)⟩
 case round =>
  obtain ⟨i,hi,hgk,rfl,rfl,HNO⟩:=hrel;have HG:=aW hgk;clear hgk;by_cases hlt:i<n
  ·obtain ⟨s,hs⟩:∃ s,l[i]? = some s:=⟨_,List.getElem?_eq_getElem (by rw [HL.out];exact hlt)⟩
   obtain ⟨b,o,rfl,hb,hz⟩:=HR.out (by intro e;have:=congrArg List.length e;rw [av,HL.out] at this;simp at this;omega);have hz9:=hz i (by rw [av,HL.out];exact hlt);have x0:wr.cell? ⟨b,o+i,none⟩=some (Zt ⟨s.toArray⟩):=by
    rw [hz9];have hs9:=(List.getElem?_eq_some_iff.1 hs).2;simp [ar,hs9]
   have HS:=aW hs;obtain ⟨c,hc⟩:∃ c,(t == s)=c:=⟨_,rfl⟩
   have HC:=aW (show c=true ↔ t=s by rw [← hc];simp);clear hz hz9 hs;cases c
   ·have hne:s≠t:=λ e=>by have:=HC.out.2 e.symm;cases this
    gi_wp2
    gi_roundg (n-(i+1))
    case measure=>rw [HG.out];omega
    case rel =>
     refine ⟨i+1,hlt,rfl,by go_num,rfl,aW λ j s' hj hs'=>?_⟩;rcases Nat.lt_or_ge j i with h | h
     ·exact HNO.out j s' h hs'
     ·obtain rfl:j=i:=by omega
      rw [HS.out] at hs';injection hs' with hs'
      rw [← hs'];exact hne
   ·gi_wp2;go_ret;exact ⟨(i:Int),rfl,rfl,λ _=>(HC.out.1 trivial) ▸ List.mem_of_getElem? HS.out,λ _=>by omega⟩
  ·obtain rfl:i=n:=by omega
   gi_wp2;go_ret;refine ⟨-1,rfl,rfl,λ h=>by omega,λ h=>?_⟩;obtain ⟨j,hj⟩:=List.getElem?_of_mem h;have hj9:=(List.getElem?_eq_some_iff.1 hj).1;exact absurd rfl (HNO.out j t (by rw [← HL.out];exact hj9) hj)
theorem sd (l:List (List UInt8)) (t:List UInt8) (A:Option Addr) (n ca:Nat) (w:World) (hl:l.length=n) (hn:n<=4194304) (hR:Rd w A (ar l)) (c:Bool) (hc:c=true ↔ t ∈ l) :
  CallsIn d4 2 Tryz.prog 41 #[Zs A n ca,Zt ⟨t.toArray⟩] w λ e w'=>e=.returned (.bool c)/\w'=w:=by
 have HI:=aW (um l t A n ca w hl hn hR);clear hR hl;refine callsIn_of_wp Tryz.func41 rfl (aC (by kernel_rfl)) ?_ rfl;simp only [Tryz.ntmps41,List.size_toArray,List.length_cons,List.length_nil,Nat.reduceAdd,Nat.reduceSub,Array.replicate_succ,Array.replicate_zero,List.push_toArray,List.append_toArray,List.nil_append,List.cons_append];gi_wp2;refine ⟨aC (by kernel_rfl),HI.out.mono ?_⟩;rintro e w' ⟨i,rfl,rfl,hi⟩;have hd:decide (0<=i)=c:=by
  rw [Bool.eq_iff_iff,decide_eq_true_eq];exact hi.trans hc.symm
 clear hi hc;gi_wp2;go_ret;exact ⟨rfl,rfl⟩
theorem pP (u:List UInt8):(⟨u.toArray⟩:ByteArray).toList=u:=by
 rw [ByteArray.toList_eq]
theorem jX (t u:List UInt8):((⟨t.toArray⟩:ByteArray).toList == u)=(t == u):=by
 have h:=dP (a:=t) (b:=u);rw [show (⟨u.toArray⟩:ByteArray).toList=u from pP u] at h;rw [h,Bool.eq_iff_iff];simp
def CkP (o:Option Int) (w:World) (e:Ending) (w':World):Prop:=w'=w/\e=(match o with | none=>.returned (.tuple #[]) | some x=>.panicked [{ v:=.iface 90 (Zi Zq x),recovered:=false }])
/-- a name that stands for nothing -/
theorem vT (m:Nat) (l:List (List UInt8)) (t:List UInt8) (A:Option Addr) (n ca:Nat) (w:World) (hl:l.length=n) (hn:n<=4194304) (hR:Rd w A (ar l)) :
  CallsIn d4 m Tryz.prog 58 #[Zt ⟨t.toArray⟩,Zs A n ca] w (CkP (if giv t=true∨t ∈ l then none else some 340) w):=by
 obtain ⟨a,ha⟩:∃ a,(t == [100,111,99])=a:=⟨_,rfl⟩
 obtain ⟨b,hb⟩:∃ b,(t == [105,100])=b:=⟨_,rfl⟩
 obtain ⟨c,hc⟩:∃ c:Bool,c=true ↔ t ∈ l:=by
  by_cases h:t ∈ l
  ·exact ⟨true,by simp [h]⟩
  ·exact ⟨false,by simp [h]⟩
 have HGV:=aW (dm (m:=m-1) (p9 ⟨t.toArray⟩ w a b (by rw [jX t [100,111,99]];exact ha) (by rw [jX t [105,100]];exact hb)));have HH:=aW (dm (m:=m-1) (sd l t A n ca w hl hn hR c hc));have hgv:giv t=(a || b):=by unfold giv;rw [ha,hb]
 have hif:(if giv t=true∨t ∈ l then none else some (340:Int))=(if (a || b)=true∨c=true then none else some 340):=by simp only [hgv,hc]
 rw [hif];clear hif hgv hc ha hb hR hl;obtain ⟨gv,hgv⟩:∃ z,(a || b)=z:=⟨_,rfl⟩
 rw [hgv] at HGV ⊢;clear hgv;refine callsIn_of_wp Tryz.func58 rfl (aC (by kernel_rfl)) ?_ rfl;simp only [Tryz.ntmps58,List.size_toArray,List.length_cons,List.length_nil,Nat.reduceAdd,Nat.reduceSub,Array.replicate_succ,Array.replicate_zero,List.push_toArray,List.append_toArray,List.nil_append,List.cons_append];cases gv
 ·cases c
  ·rw [if_neg (by simp)];gi_wp2;refine ⟨aC (by kernel_rfl),HGV.out.mono ?_⟩;rintro e w2 ⟨rfl,rfl⟩;gi_wp2;refine ⟨aC (by kernel_rfl),HH.out.mono ?_⟩;rintro e w3 ⟨rfl,rfl⟩;gi_wp2;exact ⟨rfl,rfl,rfl⟩
  ·rw [if_pos (by simp)];gi_wp2;refine ⟨aC (by kernel_rfl),HGV.out.mono ?_⟩;rintro e w2 ⟨rfl,rfl⟩;gi_wp2;refine ⟨aC (by kernel_rfl),HH.out.mono ?_⟩;rintro e w3 ⟨rfl,rfl⟩;gi_wp2;go_end0;exact ⟨rfl,rfl⟩
 ·rw [if_pos (by simp)];gi_wp2;refine ⟨aC (by kernel_rfl),HGV.out.mono ?_⟩;rintro e w2 ⟨rfl,rfl⟩;gi_wp2;refine ⟨aC (by kernel_rfl),?_⟩;gi_wp2;go_end0;exact ⟨rfl,rfl⟩
end
section
open Go.RowKit Go.Shelf
attribute [local go_sem] ab ae af ac Oper.semAt_some
attribute [local go_sem] dF dE
section
variable {F:Fence} {n:Nat} {P:Program} {b:Frame} {a:Act} {k:List Item} {cs:List Frame} {w:World} {Q:Exit->Act->World->Prop}
theorem df {c:Code}:step P (lone (b.atR a (.code (.scope c)::k)) cs w)=.next (lone (b.atR a (.code c::.inScope c::k)) cs w) :=
 step_lone_go (by simp [stepG,stepG.exec,Frame.atR])
theorem ls {c:Code}:step P (lone (b.atR a (.inScope c::k)) cs w)=.next (lone (b.atR a k) cs w) :=
 step_lone_go (by simp [stepG,stepG.exec,Frame.atR])
theorem pY {c:Code} (h:c.wpIn F n P (Exit.noGoto Q) a w):(Code.scope c).wpIn F n P Q a w:=by
 intro b k cs hro hb hr;have h0:(lone (b.atR a (.code (.scope c)::k)) cs w).fenced P F:=fenced_calm hb hr rfl;obtain ⟨e,a₁,w₁,hq,harr⟩:=h b (.inScope c::k) cs hro hb hr;cases e with
 | normal=>exact ⟨.normal,a₁,w₁,hq,.head h0 df (StepsIn.trans harr (.one (fenced_calm hb hr rfl) ls))⟩
 |exit id =>
  have hx:exitTo id (.inScope c::k)=exitTo id k:=by simp [exitTo]
  exact ⟨_,a₁,w₁,hq,λ k' hk=>.head h0 df (harr.1 k' (by rw [hx];exact hk)),
   λ hr' hk=>let ⟨k₁,h1,h2⟩:=harr.2 hr' (by rw [hx];exact hk);⟨k₁,h1,.head h0 df h2⟩⟩
 | goto l=>exact hq.elim
 | ret=>exact ⟨_,a₁,w₁,hq,.of_steps (.one h0 df) harr⟩
 | panic ch=>exact ⟨_,a₁,w₁,hq,.of_steps (.one h0 df) harr⟩
 | outgrown=>exact ⟨_,a₁,w₁,hq,.of_steps (.one h0 df) harr⟩
end
theorem sV {a:Nat}:∀ {l:List Nat},a ∈ l->a<=l.sum
 |x::r,h=>by
  rw [List.sum_cons];rcases List.mem_cons.1 h with rfl | h
  ·omega
  ·have:=sV h;omega
theorem oG {k:Int} {v:JV} {s:List UInt8} {kids:List EJ} {i:Nat} {x:EJ} (h:kids[i]? = some x):bG x<bG (.mk k v s kids):=by
 have h1:bG x<=cj kids:=by
  rw [jq];exact sV (List.mem_map_of_mem (List.mem_of_getElem? h))
 rw [bG];omega
theorem oH:∀ x:EJ,1<=bG x | .mk _ _ _ _=>by rw [bG];omega
theorem jp:∀ l:List EJ,l.length<=cj l
 | []=>Nat.le_refl _
 |x::r=>by
  have h1:=oH x;have h2:=jp r;rw [List.length_cons,cj];omega
def uA (t:List UInt8):Array Value:=#[Zt ⟨t.toArray⟩]
def xl (x0:EJ) (pre:List (List UInt8)) (t:List UInt8):Prop:=(pre++[t]) <+: aF x0
def YS (l:Nat) (ob:Option Nat) (N:Nat) (x0:EJ) (J Jx:List (List UInt8)->World->Prop) (Jp:List PanicEntry->World->Prop):Prop:=∀ pre t W1,J pre W1->xl x0 pre t->YieldAt d4 1 Tryz.prog l (uA t) W1 λ e W' =>
 (e=.returned (.bool true)/\J (pre++[t]) W'/\KpR ob N W1 W')∨(e=.returned (.bool false)/\Jx (pre++[t]) W'/\KpR ob N W1 W')∨(∃ ch,e=.panicked ch/\Jp ch W')
def xp (ob:Option Nat) (N:Nat) (J Jx:List (List UInt8)->World->Prop) (Jp:List PanicEntry->World->Prop) (x:EJ) (pre:List (List UInt8)) (W:World) (e:Ending) (W':World):Prop :=
 (e=.returned (.bool true)/\J (pre++aF x) W'/\KpR ob N W W')∨(e=.returned (.bool false)/\∃ ys,Jx ys W')∨(∃ ch,e=.panicked ch/\Jp ch W')
abbrev ql (ib yb:Nat):Value:=.func (.func 150) #[] #[Zp (some ⟨ib,0,none⟩),Zp (some ⟨yb,0,none⟩)]
theorem kv {W:World} {F:Nat->Prop} {css:List (List Value)} {xs:List EJ} {A:Option Addr} (h:ERs W F css xs) (hr:RdF W F A css.flatten) {i:Nat} {x:EJ} (hx:xs[i]? = some x) :
  ∃ (b o:Nat) (k k1 n1:Int) (s1:ByteArray) (A1:Option Addr) (na1 ca1:Nat) (B1:Option Addr) (nb1 cb1:Nat) (s:ByteArray) (A':Option Addr) (n' ca':Nat),A=some ⟨b,o,none⟩/\b<W.heap.size /\
   ER W F [Zi Zq k,Zi Zq k1,Zi Zq n1,Zt s1,Zs A1 na1 ca1,Zs B1 nb1 cb1,Zt s,Zs A' n' ca'] x /\
   ∀ W',aj F W W'->W'.cell? ⟨b,o+i*8,none⟩=some (Zi Zq k)/\W'.cell? ⟨b,o+i*8+1,none⟩=some (Zi Zq k1)/\W'.cell? ⟨b,o+i*8+2,none⟩=some (Zi Zq n1)/\W'.cell? ⟨b,o+i*8+3,none⟩=some (Zt s1) /\
    W'.cell? ⟨b,o+i*8+4,none⟩=some (Zs A1 na1 ca1)/\W'.cell? ⟨b,o+i*8+5,none⟩=some (Zs B1 nb1 cb1)/\W'.cell? ⟨b,o+i*8+6,none⟩=some (Zt s)/\W'.cell? ⟨b,o+i*8+7,none⟩=some (Zs A' n' ca'):=by
 obtain ⟨b,o,c,rfl,hb,hf,_,hv,hc⟩:=h.cell (λ c x h=>h.len) (by decide) hr hx;obtain ⟨k,k1,n1,s1,A1,na1,ca1,B1,nb1,cb1,s,A',n',ca',rfl⟩:=hv.form;refine ⟨b,o,k,k1,n1,s1,A1,na1,ca1,B1,nb1,cb1,s,A',n',ca',rfl,hb,hv,λ W' hW=>?_⟩;have z:=λ (j:Nat) u (hj:j<8) hu=>(World.cell?_of_block (w:=W) (a:=⟨b,o+(i*8+j),none⟩) (hW.2 b hf hb)).trans (hc j u hj hu)
 exact ⟨z 0 _ (by decide) rfl,z 1 _ (by decide) rfl,z 2 _ (by decide) rfl,z 3 _ (by decide) rfl,z 4 _ (by decide) rfl,z 5 _ (by decide) rfl,z 6 _ (by decide) rfl,z 7 _ (by decide) rfl⟩
theorem KpR.keepN {ob:Option Nat} {w0 W:World} (h:KpR ob w0.heap.size w0 W):aj (λ b=>¬ aM ob w0 b) w0 W:=h.keepF
theorem KpR.bel {ob:Option Nat} {N:Nat} {A B:World} (hob:∀ b,ob=some b->b<A.heap.size) (h:Below A.heap.size A B):KpR ob N A B:=.of_fro (.of_below hob h)
theorem se (l:Nat) (ob:Option Nat) (w0:World) (x0:EJ) (J Jx:List (List UInt8)->World->Prop) (Jp:List PanicEntry->World->Prop) (yb ib:Nat) (hob:∀ b,ob=some b->b<w0.heap.size) (hO0:∀ k,aM ob w0 k->k<w0.heap.size) (hyb0:w0.heap.size<=yb) (hib0:w0.heap.size<=ib)
  (hJ:∀ s A B,Below A.heap.size A B->J s A->J s B) (hY:YS l ob w0.heap.size x0 J Jx Jp):∀ (M:Nat) (x:EJ),bG x<=M->M<=4194304->∀ (pre rest:List (List UInt8)) (cs:List Value) (W:World),
  ER w0 (λ b=>¬ aM ob w0 b) cs x->KpR ob w0.heap.size w0 W->J pre W->Blk W yb 37 #[.func (.yield l) #[] #[]]->Blk W ib 105 #[ql ib yb]->¬ aM ob W yb->¬ aM ob W ib->aF x0=pre++(aF x++rest) ->
  CallsIn d4 2 Tryz.prog 150 #[.agg cs.toArray,Zp (some ⟨ib,0,none⟩),Zp (some ⟨yb,0,none⟩)] W (xp ob w0.heap.size J Jx Jp x pre W)
 | 0,x,h,_,_,_,_,_,_,_,_,_,_,_,_,_=>by have:=oH x;omega
 |M+1,.mk k v s kids,hM,hM4,pre,rest,cs,W,hv,hK,hJ0,hyb,hib,hyo,hio,hfl=>by
  have ih:=se l ob w0 x0 J Jx Jp yb ib hob hO0 hyb0 hib0 hJ hY M;obtain ⟨k1,n1,s1,A1,na1,ca1,B1,nb1,cb1,A,ca,css,rfl,hv1,h1,h2,h3,h4⟩:=hv.out;have HIH:=aW (λ (i:Nat) (x:EJ) (hx:kids[i]? = some x)=>kv h1 h4 hx);have hkl:=jp kids;have hkd:=λ (i:Nat) (x:EJ) (hx:kids[i]? = some x)=>oG (k:=k) (v:=v) (s:=s) hx
  have hfl2:aF x0=pre++(aK kids++((if k=2 then [s] else [])++rest)):=by rw [hfl,aF,List.append_assoc]
  have hnx:aF (.mk k v s kids)=aK kids++(if k=2 then [s] else []):=rfl;have hsz:kids.length<=4194304:=by rw [bG] at hM;omega
  obtain ⟨nk,hnk⟩:∃ nk,kids.length=nk:=⟨_,rfl⟩
  rw [hnk] at h2 hkl hsz;rw [hnk];have hb1:=(Below.refl W.heap.size W).alloc (Nat.le_refl _) (.cells #[Zi Zq k,Zi Zq k1,Zi Zq n1,Zt s1,Zs A1 na1 ca1,Zs B1 nb1 cb1,Zt ⟨s.toArray⟩,Zs A nk ca] 45);have hobW:∀ b,ob=some b->b<W.heap.size:=λ b e=>Nat.lt_of_lt_of_le (hob b e) hK.size
  have hbk:=Blk.new W 45 #[Zi Zq k,Zi Zq k1,Zi Zq n1,Zt s1,Zs A1 na1 ca1,Zs B1 nb1 cb1,Zt ⟨s.toArray⟩,Zs A nk ca];obtain ⟨W1,hW1⟩:∃ W1,W.alloc (.cells #[Zi Zq k,Zi Zq k1,Zi Zq n1,Zt s1,Zs A1 na1 ca1,Zs B1 nb1 cb1,Zt ⟨s.toArray⟩,Zs A nk ca] 45)=W1:=⟨_,rfl⟩
  rw [hW1] at hb1 hbk;have hk1:KpR ob w0.heap.size W W1:=KpR.bel hobW hb1;have hgo:¬ aM ob W1 W.heap.size:=λ h=>by
   rcases hk1.own _ h with h | h
   ·have:=hK.ownlt hO0 _ h;omega
   ·have h9:=cz (A:=W) (λ b e=>hb1.block b (hobW b e)) (by assumption);have:=hK.ownlt hO0 _ h9;omega
  have hyo1:=hk1.not_own hyb.lt hyo;have hio1:=hk1.not_own hib.lt hio;have hyb1:Blk W1 yb _ _:=hyb.keep hb1;have hib1:Blk W1 ib _ _:=hib.keep hb1;have HW1:=aW hW1;have HI:=aW ih;have HJ:=aW hJ;have HY:=aW hY;have HBK:=aW hbk;have HK:=aW (hK.trans hk1);have HK1:=aW hk1;have HO:=aW (And.intro hgo (And.intro hyo1 hio1));have HYB:=aW hyb1;have HIB:=aW hib1;have HFL:=aW hfl2;have HNX:=aW hnx;have HNK:=aW hnk;have HJ1:=aW (hJ _ _ _ hb1 hJ0);have HKD:=aW hkd;have HM:=aW (And.intro hM hM4);have HOB:=aW hobW;have HO0:=aW hO0;have hSS:∃ S:ByteArray,(⟨s.toArray⟩:ByteArray)=S:=⟨_,rfl⟩
  obtain ⟨c1,f1,l1⟩:=hbk.rules;clear hK hk1 hgo hyo1 hio1 hyb1 hib1 hyb hib hyo hio hfl hfl2 hnx hnk hJ0 hJ hY ih hbk hb1 hobW hkd hM hM4 hW1 hv hv1 h1 h3 h4 hkl hO0;have z0:=c1 0;have z3:=c1 7;have z2:=c1 6;simp at z0 z3 z2;refine callsIn_of_wp Tryz.func150 rfl (aC (by kernel_rfl)) ?_ rfl;simp only [Tryz.ntmps150,List.size_toArray,List.length_cons,List.length_nil,Nat.reduceAdd,Nat.reduceSub,Array.replicate_succ,Array.replicate_zero,List.push_toArray,List.append_toArray,List.nil_append,List.cons_append];gi_wp2;rw [HW1.out];refine pY ?_;gi_wp2;refine wpIn_label ?_;gi_wp2;clear c1 f1 l1 z0 z2 z3
  gi_loopg [10] nk (λ gk s10 wr => ∃ i:Nat,i<=nk/\gk=nk-i/\s10=Zi Zq i/\Hid (J (pre++aK (kids.take i)) wr)/\Hid (KpR ob w0.heap.size W1 wr))
  case atStart=>exact ⟨0,Nat.zero_le _,rfl,by go_num,aW (by simpa [aK] using HJ1.out),aW (.refl _ _ _)⟩
  case round =>
   obtain ⟨i,hi,hgk,rfl,HJw,HKw⟩:=hrel;have HG:=aW hgk;clear hgk;have hszW:=HKw.out.size;by_cases hlt:i<nk
   ·obtain ⟨x,hx⟩:∃ x,kids[i]? = some x:=⟨_,List.getElem?_eq_getElem (by rw [HNK.out];exact hlt)⟩
    obtain ⟨b,o,k',k1',n1',s1',A1',na1',ca1',B1',nb1',cb1',s',A',n',ca',rfl,hb,hvx,hz⟩:=HIH.out i x hx;have hKt:=HK.out.trans HKw.out;obtain ⟨q0,q1,q2,q3,q4,q5,q6,q7⟩:=hz _ hKt.keepN;have hyw:=HKw.out.blk HYB.out HO.out.2.1;have hiw:=HKw.out.blk HIB.out HO.out.2.2;have hyow:=HKw.out.not_own HYB.out.lt HO.out.2.1;have hiow:=HKw.out.not_own HIB.out.lt HO.out.2.2;obtain ⟨hf1,hf2⟩:=iF hx;have hbA:=(Below.refl wr.heap.size wr).alloc (Nat.le_refl _) (.cells #[Zi Zq k',Zi Zq k1',Zi Zq n1',Zt s1',Zs A1' na1' ca1',Zs B1' nb1' cb1',Zt s',Zs A' n' ca'] 45);have hKa:KpR ob w0.heap.size wr _:=KpR.bel (λ b e=>Nat.lt_of_lt_of_le (HOB.out b e) (by have:=HK1.out.size;omega)) hbA;have hcl:=HI.out x (by have:=HKD.out i x hx;have:=HM.out.1;omega) (by have:=HM.out.2;omega) (pre++aK (kids.take i)) (aK (kids.drop (i+1))++((if k=2 then [s] else [])++rest)) _ _ hvx (hKt.trans hKa) (HJ.out _ _ _ hbA HJw.out) (hyw.alloc _) (hiw.alloc _)
     (hKa.not_own hyw.lt hyow) (hKa.not_own hiw.lt hiow) (by rw [HFL.out,hf2];simp only [List.append_assoc])
    have HCL:=aW (dm (m:=1) hcl);have HF1:=aW hf1;have HKA:=aW (HKw.out.trans hKa);obtain ⟨e1,e2,e3⟩:=(hiw.alloc (.cells #[Zi Zq k',Zi Zq k1',Zi Zq n1',Zt s1',Zs A1' na1' ca1',Zs B1' nb1' cb1',Zt s',Zs A' n' ca'] 45)).rules;clear hcl hf1 hf2 hbA hz hvx hx hKt hyw hiw hyow hiow hKa hszW;gi_wp2;refine ⟨aC (by kernel_rfl),HCL.out.mono ?_⟩;rintro e W5 (⟨rfl,hJ5,hk5⟩ | ⟨rfl,zs,hJx5⟩ | ⟨ch,rfl,hJp5⟩)
    ·have HJ5:=aW hJ5;have HK5:=aW (HKA.out.trans hk5);clear hJ5 hk5;gi_wp2
     gi_roundg (nk-(i+1))
     case measure=>rw [HG.out];omega
     case rel=>exact ⟨i+1,hlt,rfl,by go_num,aW (by rw [HF1.out,← List.append_assoc];exact HJ5.out),HK5⟩
    ·gi_wp2;rw [Exit.noGoto_ret];go_ret;exact .inr (.inl ⟨rfl,zs,hJx5⟩)
    ·gi_wp2;exact ⟨rfl,.inr (.inr ⟨ch,rfl,hJp5⟩)⟩
   ·obtain rfl:i=nk:=by omega
    obtain ⟨c1,f1,l1⟩:=(HKw.out.blk HBK.out HO.out.1).rules;obtain ⟨d1,d2,d3⟩:=(HKw.out.blk HYB.out HO.out.2.1).rules;have z0:=c1 0;have z2:=c1 6;simp at z0 z2;have hJ9:J (pre++aK kids) wr:=by
     have h:=HJw.out;rwa [List.take_of_length_le (by rw [HNK.out];exact Nat.le_refl _)] at h
    have HK9:=aW (HK1.out.trans HKw.out);by_cases hk2:k=2
    ·subst hk2;obtain ⟨fn,tmps,assign,body,hy,hR⟩:=HY.out (pre++aK kids) s wr hJ9 ⟨rest,by rw [HFL.out];simp⟩;unfold uA at hy;clear hJ9 hszW;gi_wp2;refine hR.mono ?_;rintro e W3 (⟨rfl,hJ3,hk3⟩ | ⟨rfl,hJx3,hk3⟩ | ⟨ch,rfl,hJp3⟩)
     ·have HE:=aW (And.intro hJ3 (HK9.out.trans hk3));clear hJ3 hk3;gi_wp2;rw [Exit.noGoto_ret];go_ret;exact .inl ⟨rfl,by rw [HNX.out,if_pos trivial,← List.append_assoc];exact HE.out.1,HE.out.2⟩
     ·clear hk3;have HE:=aW hJx3;clear hJx3;gi_wp2;rw [Exit.noGoto_ret];go_ret;exact .inr (.inl ⟨rfl,_,HE.out⟩)
     ·have HE:=aW hJp3;clear hJp3;gi_wp2;exact ⟨rfl,.inr (.inr ⟨ch,rfl,HE.out⟩)⟩
    ·have HE:=aW hJ9;clear hJ9 hszW;gi_wp2;refine ⟨λ f h=>(by cases h),?_⟩;gi_wp2;rw [Exit.noGoto_ret];go_ret;exact .inl ⟨rfl,by rw [HNX.out,if_neg hk2,List.append_nil];exact HE.out,HK9.out⟩
theorem uo (m:Nat) (c0 c1 c2 c3 c4 c5 c6 c7:Value) (w:World) :
  CallsIn d4 m Tryz.prog 96 #[.agg #[c0,c1,c2,c3,c4,c5,c6,c7]] w λ e w'=>e=.returned (.func (.func 149) #[] #[Zp (some ⟨w.heap.size,0,none⟩)])/\w.alloc (.cells #[c0,c1,c2,c3,c4,c5,c6,c7] 45)=w':=by
 have hmf:∀ (fn:Fn) (first cap:Array Value) (w:World),(Instr.makeFunc fn first cap).run Tryz.prog w=.ok (.func fn first cap) w:=λ _ _ _ _=>rfl
 refine callsIn_of_wp Tryz.func96 rfl (aC (by kernel_rfl)) ?_ rfl;simp only [Tryz.ntmps96,List.size_toArray,List.length_cons,List.length_nil,Nat.reduceAdd,Nat.reduceSub,Array.replicate_succ,Array.replicate_zero,List.push_toArray,List.append_toArray,List.nil_append,List.cons_append];gi_wp2;go_ret;exact ⟨rfl,rfl⟩
theorem sf (l:Nat) (ob:Option Nat) (w0:World) (x0:EJ) (J Jx:List (List UInt8)->World->Prop) (Jp:List PanicEntry->World->Prop) (hob:∀ b,ob=some b->b<w0.heap.size) (hO0:∀ k,aM ob w0 k->k<w0.heap.size)
  (hJ:∀ s A B,Below A.heap.size A B->J s A->J s B) (hY:YS l ob w0.heap.size x0 J Jx Jp) (hs:bG x0<=4194304) (vb:Nat) (cs:List Value) (W:World) (hv:ER w0 (λ b=>¬ aM ob w0 b) cs x0) (hK:KpR ob w0.heap.size w0 W) (hvb:Blk W vb 45 cs.toArray) (hJ0:J [] W) :
  CallsIn d4 2 Tryz.prog 149 #[.func (.yield l) #[] #[],Zp (some ⟨vb,0,none⟩)] W λ e W'=>((∃ v,e=.returned v)/\((∃ xs,xs=aF x0/\J xs W')∨(∃ pre,True/\Jx pre W')))∨(∃ ch,e=.panicked ch/\Jp ch W'):=by
 have hmf:∀ (fn:Fn) (first cap:Array Value) (w:World),(Instr.makeFunc fn first cap).run Tryz.prog w=.ok (.func fn first cap) w:=λ _ _ _ _=>rfl
 have hb2:Below W.heap.size W ((W.alloc (.cells #[.func (.yield l) #[] #[]] 37)).alloc (.cells #[ql (W.heap.size+1) W.heap.size] 105)):=((Below.refl _ W).alloc (Nat.le_refl _) _).alloc (by simp) _;have hib:=Blk.new (W.alloc (.cells #[.func (.yield l) #[] #[]] 37)) 105 #[ql (W.heap.size+1) W.heap.size];rw [World.size_alloc] at hib;have hobW:∀ b,ob=some b->b<W.heap.size:=λ b e=>Nat.lt_of_lt_of_le (hob b e) hK.size
 have hno:∀ k,W.heap.size<=k->¬ aM ob ((W.alloc (.cells #[.func (.yield l) #[] #[]] 37)).alloc (.cells #[ql (W.heap.size+1) W.heap.size] 105)) k:=λ k hk h=>by
  have h9:=cz (A:=W) (λ b e=>hb2.block b (hobW b e)) h;have:=hK.ownlt hO0 _ h9;omega
 have hcl:=se l ob w0 x0 J Jx Jp W.heap.size (W.heap.size+1) hob hO0 hK.size (by have:=hK.size;omega) hJ hY _ x0 (Nat.le_refl _) hs [] [] cs _ hv (hK.trans (KpR.bel hobW hb2)) (hJ _ _ _ hb2 hJ0)
  ((Blk.new W 37 #[.func (.yield l) #[] #[]]).alloc _) hib (hno _ (Nat.le_refl _)) (hno _ (by omega)) (by simp)
 obtain ⟨k,k1,n1,s1,A1,na1,ca1,B1,nb1,cb1,s,A,n,ca,rfl⟩:=hv.form;have HCL:=aW (dm (m:=1) hcl);obtain ⟨c1,f1,l1⟩:=(hvb.keep hb2).rules;obtain ⟨d1,d2,d3⟩:=hvb.rules;clear hcl hib hb2 hvb hY hJ hK hv hJ0 hno hobW hob hO0 hs;refine callsIn_of_wp Tryz.func149 rfl (aC (by kernel_rfl)) ?_ rfl;simp only [Tryz.ntmps149,List.size_toArray,List.length_cons,List.length_nil,Nat.reduceAdd,Nat.reduceSub,Array.replicate_succ,Array.replicate_zero,List.push_toArray,List.append_toArray,List.nil_append,List.cons_append];gi_wp2;refine ⟨aC (by kernel_rfl),HCL.out.mono ?_⟩;rintro e W5 (⟨rfl,hJ5,_⟩ | ⟨rfl,ys,hJx⟩ | ⟨ch,rfl,hJp⟩)
 ·gi_wp2;go_end0;exact .inl ⟨⟨_,rfl⟩,.inl ⟨_,rfl,hJ5⟩⟩
 ·gi_wp2;go_end0;exact .inl ⟨⟨_,rfl⟩,.inr ⟨ys,trivial,hJx⟩⟩
 ·gi_wp2;exact ⟨rfl,.inr ⟨ch,rfl,hJp⟩⟩
theorem xu (ob:Option Nat) (w0:World) (x0:EJ) (hob:∀ b,ob=some b->b<w0.heap.size) (hO0:∀ k,aM ob w0 k->k<w0.heap.size) (hs:bG x0<=4194304) (vb:Nat) (cs:List Value) (hv:ER w0 (λ b=>¬ aM ob w0 b) cs x0) (hvb:Blk w0 vb 45 cs.toArray) :
  vz d4 2 Tryz.prog 149 #[Zp (some ⟨vb,0,none⟩)] uA (λ A B=>Below A.heap.size A B) (KpR ob w0.heap.size) (xl x0) (λ xs _=>xs=aF x0) (λ _ _=>True) w0:=by
 intro l J Jx Jp W hW hJ _ hY h0;exact sf l ob w0 x0 J Jx Jp hob hO0 hJ hY hs vb cs W hv (KpR.bel hob hW) (hvb.keep hW) h0
end
end Go.Proofs.YtgmnmnnoahdjnaaGreatDoor
