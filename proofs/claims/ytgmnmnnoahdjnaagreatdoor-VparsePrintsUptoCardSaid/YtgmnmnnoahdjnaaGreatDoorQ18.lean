import Derived.Test.YtgmnmnnoahdjnaaGreatDoorQ14
import Derived.Test.YtgmnmnnoahdjnaaGreatDoorQ15
open Go.Value renaming int → Zi, slice → Zs, string → Zt, pointer → Zp
open Go.IntKind renaming i64 → Zq
set_option maxRecDepth 100000
set_option maxHeartbeats 16000000
set_option linter.unusedVariables false
set_option linter.unusedSimpArgs false
namespace Go.Proofs.YtgmnmnnoahdjnaaGreatDoor
section
def dM (v:JV):Bool:=good v && (decide (v.kind=3/\0<=v.num) || decide (v.kind=1∨v.kind=2∨v.kind=4))
def cV:JV->Bool | .mk k n s kids keys=>decide (k=0/\n=0/\s=[]/\kids.length+keys.length=0)
def dv (s:List UInt8):Bool:=bI ⟨s.toArray⟩
def okX (k:Int) (v:JV) (s:List UInt8) (nk:Nat):Bool :=
 if k=1 then dM v && decide (s=[]/\nk=0)
 else if cV v=false then false
 else if k=2 then dv s && decide (nk=0)
 else if k=3 then dv s && decide (nk=1)
 else if k=4 then decide (s=[])
 else if 5<=k/\k<=7 then decide (s=[]/\nk=1)
 else if 8<=k/\k<=15 then decide (s=[]/\nk=2)
 else false
mutual
/-- how deep an expression is that may be,within so many levels;0: it may not be -/
def bj:Nat->EJ->Nat
 | room,.mk k v s kids=>if room=0 then 0 else if okX k v s kids.length=true then (match cH (room-1) kids with | none=>0 | some m=>m+1) else 0
def cH:Nat->List EJ->Option Nat
 | _,[]=>some 0
 | room,x::r=>if bj room x=0 then none else match cH room r with | none=>none | some m=>some (max (bj room x) m)
end
def fY (x:EJ):Prop:=bj 12 x≠0
instance (x:EJ):Decidable (fY x):=by unfold fY;infer_instance
def dp:EJ->Bool | .mk k v s kids=>decide (k=0/\s=[]/\kids.length=0) && cV v
mutual
/-- may a statement be,within so many levels? -/
def iB:Nat->SJ->Bool
 | room,.mk k s a b body els=>decide (room≠0) && (decide (fY a) &&
   (if k=1 then decide (fY b) && decide (s=[]/\body.length+els.length=0)
    else if k=2 then dp b && (decide (s=[]) && (bJ (room-1) body && bJ (room-1) els))
    else if k=3 then dp b && (dv s && (bJ (room-1) body && decide (els.length=0)))
    else false))
def bJ:Nat->List SJ->Bool
 | _,[]=>true
 | room,x::r=>iB room x && bJ room r
end
def ie (l:List SJ):Bool:=bJ 12 l
theorem iA {d:Nat}:∀ {xs:List SJ},bJ d xs=true ↔ ∀ x ∈ xs,iB d x=true
 | []=>by simp [bJ]
 | x::r=>by simp [bJ,iA (xs:=r)]
theorem rH {r:Nat} {x:EJ} {l:List EJ}:cH r (x::l)≠none ↔ bj r x≠0/\cH r l≠none:=by
 rw [cH];by_cases h:bj r x=0
 ·rw [if_pos h];simp [h]
 ·rw [if_neg h];cases hd:cH r l<;>simp [h]
theorem iP {r:Nat}:∀ {l:List EJ},cH r l≠none ↔ ∀ x ∈ l,bj r x≠0
 | []=>by simp [cH]
 | x::l=>by rw [rH,iP (l:=l)];simp
theorem aR {r:Nat} {k:Int} {v:JV} {s:List UInt8} {kids:List EJ} (h:bj r (.mk k v s kids)≠0):r≠0/\okX k v s kids.length=true/\∀ x ∈ kids,bj (r-1) x≠0:=by
 unfold bj at h;by_cases h0:r=0
 ·rw [if_pos h0] at h;exact absurd rfl h
 ·rw [if_neg h0] at h;by_cases h1:okX k v s kids.length=true
  ·rw [if_pos h1] at h;refine ⟨h0,h1,iP.1 λ e=>?_⟩;rw [e] at h;exact h rfl
  ·rw [if_neg h1] at h;exact absurd rfl h
theorem rG {r:Nat} {k:Int} {v:JV} {s:List UInt8} {kids:List EJ} (h0:r≠0) (h1:okX k v s kids.length=true) (h2:∀ x ∈ kids,bj (r-1) x≠0):bj r (.mk k v s kids)≠0:=by
 unfold bj;rw [if_neg h0,if_pos h1];cases hd:cH (r-1) kids with
 | none=>exact absurd hd (iP.2 h2)
 | some m=>simp
def ic (b:Bool):JV:=.mk 2 (if b=true then 1 else 0) [] [] []
def pA (n:Int):JV:=.mk 3 n [] [] []
def lg (s:List UInt8):JV:=.mk 4 0 s [] []
theorem vK {d:Nat} {l m:List SJ}:bJ d (l++m)=(bJ d l && bJ d m):=by
 induction l with
 | nil=>simp [bJ]
 | cons x r ih=>show (iB d x && bJ d (r++m))=_;rw [ih,bJ,Bool.and_assoc]
end
section
open Go.RowKit
attribute [local go_sem] aa ac ae ab
def cn:List (List UInt8):=[[61,61],[60,61],[60],[59],[46],[44],[91],[93],[40],[41],[123],[125],[43],[45],[42]]
def wA:Value:=.agg (cn.map λ l=>Value.string ⟨l.toArray⟩).toArray
theorem sM (w:World):Calls Tryz.prog 170 #[] w λ e w'=>e=.returned wA/\Below w.heap.size w w':=by
 go_enter Tryz.func170,Tryz.ntmps170;go_wp2;go_returns;exact ⟨rfl,by go_grown⟩
theorem wB (k:Nat) (h:k<15) (w:World):(Instr.index 205 wA (Zi Zq (k:Int))).run Tryz.prog w=.ok (Zt ⟨(cn.getD k []).toArray⟩) w:=by
 rcases (by omega:k=0∨k=1∨k=2∨k=3∨k=4∨k=5∨k=6∨k=7∨k=8∨k=9∨k=10∨k=11∨k=12∨k=13∨k=14) with rfl | rfl | rfl | rfl | rfl | rfl | rfl | rfl | rfl | rfl | rfl | rfl | rfl | rfl | rfl<;>kernel_rfl
def ej (l:List UInt8) (p:Nat) (s:List UInt8):Bool:=decide ((l.drop p).take s.length=s)
def ed (l:List UInt8) (p:Nat):List (List UInt8)->Option (List UInt8)
 | []=>none
 | s::r=>if ej l p s then some s else ed l p r
def gL (l:List UInt8) (p:Nat):pg:=match ed l p cn with | some s=>.inl (5,s,0,p+s.length) | none=>.inr (p,320)
theorem sA {k:Nat} (h:k<15):1<=(cn.getD k []).length/\(cn.getD k []).length<=2:=by
 have:∀ k:Fin 15,1<=(cn.getD k []).length/\(cn.getD k []).length<=2:=by decide
 exact this ⟨k,h⟩
theorem uB (w:World) (g:Nat) (A:Option Addr) (cap:Nat) (l:List UInt8) (p:Nat) (hV:VB w g A cap l p 0) (hp:p<l.length) (hcap:l.length<=cap) (hlen:l.length<=4194304) :
  Calls Tryz.prog 133 #[Zp (some ⟨g,0,none⟩)] w (fK (gL l p) p w g A cap l):=by
 obtain ⟨hc,hf,hlt⟩:=hV.1.rules;have hgw:g<w.heap.size:=hV.1.lt;obtain ⟨b,o,rfl,hb,_⟩:=hV.byte (List.getElem?_eq_getElem hp);have HV:=aW hV;clear hV;unfold cG at hc;obtain ⟨W0,hW0⟩:∃ W0,w.alloc (.cells #[Zi Zq 0,Zi Zq 0,Zt ⟨#[]⟩,Zi Zq 0] 86)=W0:=⟨_,rfl⟩
 have hst0:a8 w g (some ⟨b,o,none⟩) cap l p 0 W0:=by rw [← hW0];exact (a8.refl HV.out).alloc _
 have hr0:Blk W0 w.heap.size 86 #[Zi Zq 0,Zi Zq 0,Zt ⟨#[]⟩,Zi Zq 0]:=by rw [← hW0];exact Blk.new _ _ _
 go_enter Tryz.func133,Tryz.ntmps133;go_wp2_with (go_at_call 170;refine (sM _).mono ?_;rintro e w1 ⟨rfl,hb1⟩);have hst1:=hst0.keep hb1;have hr1:=hr0.keep hb1;clear hW0 hc hf hlt hst0 hr0 hb;go_loopw [4,5,8] (λ _ _ i wr => ∃ k:Nat,k<=15/\i=Zi Zq k/\ed l p cn=ed l p (cn.drop k)/\∃ j,wr=w1.drewN j) (λ _ _ i _=>15-(intOf i).toNat)
 case atStart=>exact ⟨0,by omega,rfl,rfl,0,rfl⟩
 case round =>
  obtain ⟨k,hk,rfl,hfa,j,rfl⟩:=hrel;obtain ⟨hc,hf,hlt⟩:=hst1.1.1.rules;unfold cG at hc;by_cases h15:k<15
  ·have hix:=wB k h15 (w1.drewN j);have hsl:=sA h15;have hd:cn.drop k=cn.getD k []::cn.drop (k+1):=by
    rw [List.drop_eq_getElem_cons (show k<cn.length from h15),List.getD_eq_getElem?_getD,List.getElem?_eq_getElem (show k<cn.length from h15)];rfl
   rw [hd] at hfa;obtain ⟨s,hs⟩:∃ s,cn.getD k []=s:=⟨_,rfl⟩
   rw [hs] at hix hfa hsl;have hsz:(⟨s.toArray⟩:ByteArray).size=s.length:=by simp [ByteArray.size]
   have HF:=aW hfa;clear hs hd hfa;by_cases hend:p+s.length<=l.length
   ·have hcv:∀ j,(convert 67 9 (Zs (some ⟨b,o+p,none⟩) s.length (cap-p))).run Tryz.prog (w1.drewN j)=.ok (Zt ⟨((l.drop p).take s.length).toArray⟩) (w1.drewN j):=λ j=>by
     have h:=kc (w:=w1.drewN j) (p:=p) (k:=p+s.length) (by omega) hend hcap (by rw [show p+s.length-p=s.length from by omega];exact (pR hst1.1.2).drewN j);rw [show p+s.length-p=s.length from by omega] at h;exact h
    have hgt:decide ((p:Int)+(s.length:Int)<=(l.length:Int))=true:=by rw [decide_eq_true_eq];omega
    have h1:p+s.length-p=s.length:=by omega
    have h2:p+s.length<=cap:=by omega
    have h3:¬ cap=p:=by omega
    obtain ⟨x,hx⟩:∃ x,(l.drop p).take s.length=x:=⟨_,rfl⟩
    rw [hx] at hcv;have HX:=aW hx;clear hx;by_cases hxs:x=s
    ·subst hxs;have HY:=aW (show ej l p x=true by unfold ej;rw [HX.out];simp);go_wp2;go_quiet (fail);obtain ⟨W2,hW2⟩:∃ W2,(w1.drewN j).drewN nq=W2:=⟨_,rfl⟩
     have hst2:a8 w g (some ⟨b,o,none⟩) cap l p 0 W2:=by rw [← hW2];exact (hst1.drewN _).drewN _
     have hr2:Blk W2 w.heap.size 86 #[Zi Zq 0,Zi Zq 0,Zt ⟨#[]⟩,Zi Zq 0]:=by rw [← hW2];exact (hr1.drewN _).drewN _
     rw [hW2];clear hW2 hcv hix hc hf hlt hgt h1 h2 h3 hst1 hr1;obtain ⟨hc,hf,hlt⟩:=hst2.1.1.rules;unfold cG at hc;obtain ⟨cr,fr,lr⟩:=hr2.rules;go_wp2;have hR3:=hr2.far (p:=⟨g,0,none⟩) (show w.heap.size≠g by omega) (Zi Zq ((p:Int)+(x.length:Int)));obtain ⟨cf,_,_⟩:=((Blk.put4 hR3 (Zi Zq 5) (Zi Zq p) (Zt ⟨x.toArray⟩) (Zi Zq 0)).alloc (.cells #[Zi Zq 5,Zi Zq p,Zt ⟨x.toArray⟩,Zi Zq 0] 86)).rules;refine bodyPost_ret (v:=.agg #[Zi Zq 5,Zi Zq p,Zt ⟨x.toArray⟩,Zi Zq 0]) (by simp only [results,Tryz.results133];go_simp) rfl ?_;have hv:gL l p=.inl (5,x,0,p+x.length):=by unfold gL;rw [HF.out,ed,HY.out];rfl
     rw [hv];exact ⟨rfl,((hst2.set0 _).put4 hR3 (Nat.le_refl _) hgw _ _ _ _).alloc _⟩
    ·have HY:=aW (show ej l p s=false by unfold ej;rw [HX.out];simpa using hxs);have hbe:(x == s)=false:=by simpa using hxs
     go_wp2;go_quiet (fail);go_wp2;go_roundw
     case rel=>exact ⟨k+1,by omega,by go_num,by rw [HF.out,ed,HY.out];rfl,_,rfl⟩
     case measure=>simp [intOf];omega
   ·have HN:=aW (show ej l p s=false by
     unfold ej;rw [decide_eq_false_iff_not];intro e;have:=congrArg List.length e;simp at this;omega)
    have hgt:decide ((p:Int)+(s.length:Int)<=(l.length:Int))=false:=by rw [decide_eq_false_iff_not];omega
    go_wp2;go_quiet (fail);go_wp2;go_roundw
    case rel=>exact ⟨k+1,by omega,by go_num,by rw [HF.out,ed,HN.out];rfl,_,rfl⟩
    case measure=>simp [intOf];omega
  ·obtain rfl:k=15:=by omega
   have hv:gL l p=.inr (p,320):=by unfold gL;rw [hfa,List.drop_eq_nil_of_le (by decide)];rfl
   have HVV:=aW hv;clear hfa hv;go_wp2_with (go_at_call 167;refine (gy _ g _ cap l _ _ _ _ (hst1.drewN _).1).mono ?_;rintro e w3 ⟨rfl,hst5⟩;have hR3:=(hr1.drewN j).grown hst5.2 (by simp;omega);obtain ⟨cr3,fr3,lr3⟩:=hR3.rules;unfold gZ);obtain ⟨cf,_,_⟩:=(Blk.put4 hR3 (Zi Zq 0) (Zi Zq 0) (Zt ⟨#[]⟩) (Zi Zq 0)).rules;refine bodyPost_ret (v:=.agg #[Zi Zq 0,Zi Zq 0,Zt ⟨#[]⟩,Zi Zq 0]) (by simp only [results,Tryz.results133];go_simp) rfl ?_;rw [HVV.out];exact ⟨rfl,((hst1.drewN j).trans hst5).put4 hR3 (Nat.le_refl _) hgw _ _ _ _⟩
def lA (g:Nat):Array Value:=#[.func (.func 122) #[] #[],.func (.func 128) #[Zp (some ⟨g,0,none⟩)] #[],
 .func (.func 123) #[] #[],.func (.func 129) #[Zp (some ⟨g,0,none⟩)] #[],
 .func (.func 130) #[] #[],.func (.func 131) #[Zp (some ⟨g,0,none⟩)] #[],
 .func (.func 132) #[] #[],.func (.func 133) #[Zp (some ⟨g,0,none⟩)] #[]]
theorem sI (g:Nat) (w:World) :
  Calls Tryz.prog 84 #[Zp (some ⟨g,0,none⟩)] w λ e w'=>e=.returned (.func (.func 134) #[] #[Zp (some ⟨w.heap.size,0,none⟩),Zp (some ⟨w.heap.size+1,0,none⟩)]) /\
   Blk w' w.heap.size 109 #[Zp (some ⟨g,0,none⟩)]/\Blk w' (w.heap.size+1) 165 (lA g)/\w'.heap.size=w.heap.size+2/\Below w.heap.size w w':=by
 have hmf:∀ (fn:Fn) (first cap:Array Value) (w:World),(Instr.makeFunc fn first cap).run Tryz.prog w=.ok (.func fn first cap) w:=λ _ _ _ _=>rfl
 go_enter Tryz.func84,Tryz.ntmps84;go_wp2;go_ret;refine ⟨rfl,(Blk.new w _ _).alloc _,?_,by simp,by go_grown⟩;have:=Blk.new (w.alloc (.cells #[Zp (some ⟨g,0,none⟩)] 109)) 165 (lA g);rw [World.size_alloc] at this;exact this
end
section
open Go.RowKit
def dz (l:List UInt8) (p:Nat):pg :=
 match l[p]? with
 | some c=>if aL c then gJ l p else if bc c then eo l p else if c.toNat=34 then iL l p else gL l p
 | none=>.inr (0,0)
theorem fQ {l:List UInt8} {p:Nat}:∀ {ss:List (List UInt8)} {s:List UInt8},ed l p ss=some s->s ∈ ss/\ej l p s=true
 | [],s,h=>by cases h
 |x::r,s,h=>by
  unfold ed at h;split at h
  ·rename_i hx;cases h;exact ⟨List.mem_cons_self,hx⟩
  ·have:=fQ h;exact ⟨List.mem_cons_of_mem _ this.1,this.2⟩
theorem ki {l:List UInt8} {p:Nat} {k n:Int} {t:List UInt8} {m:Nat} (hp:p<l.length) (h:dz l p=.inl (k,t,n,m)):p<m/\m<=l.length:=by
 unfold dz at h;rw [List.getElem?_eq_getElem hp] at h;simp only at h;split at h
 ·rename_i hc
  have hld:dK l[p]=true:=by rw [dK,hc];rfl
  have ht:=pC (List.getElem?_eq_getElem hp) hld;have hlen:((l.drop p).takeWhile dK).length<=l.length-p:=by
   have:=(List.takeWhile_sublist dK (l:=l.drop p)).length_le;simpa using this
  have hpos:0<((l.drop p).takeWhile dK).length:=by rw [ht];simp
  unfold gJ at h;simp only at h;split at h
  ·simp only [Sum.inl.injEq,Prod.mk.injEq] at h;omega
  ·split at h
   ·simp only [Sum.inl.injEq,Prod.mk.injEq] at h;omega
   ·cases h
 ·split at h
  ·unfold eo at h;simp only at h;split at h
   ·rename_i he
    obtain ⟨m',h1,h2,h3⟩:=pG he;simp only [Sum.inl.injEq,Prod.mk.injEq] at h;rw [h1] at h;simp only [Int.toNat_natCast] at h;omega
   ·cases h
  ·split at h
   ·unfold iL at h;simp only at h;split at h
    ·rename_i he
     obtain ⟨m',h1,h2,h3⟩:=qS he;simp only [Sum.inl.injEq,Prod.mk.injEq] at h;rw [h1] at h;simp only [Int.toNat_natCast] at h;omega
    ·cases h
   ·unfold gL at h;cases hf:ed l p cn with
    | none=>rw [hf] at h;cases h
    |some s =>
     rw [hf] at h;simp only [Sum.inl.injEq,Prod.mk.injEq] at h;obtain ⟨hmem,hst⟩:=fQ hf;have h1:1<=s.length:=by
      have:∀ x ∈ cn,1<=x.length:=by decide
      exact this s hmem
     unfold ej at hst;have h2:=congrArg List.length (of_decide_eq_true hst);simp at h2;omega
def gK (l:List UInt8):Nat->Nat->List aq × Option (Int × Int)
 | 0,_=>([],none)
 |k+1,p =>
  if aM l p<l.length then
   match dz l (aM l p) with
   | .inl (kd,t,n,m)=>((kd,aM l p,t,n)::(gK l k m).1,(gK l k m).2)
   | .inr e=>([],some e)
  else ([(6,l.length,[],0)],none)
theorem oZ (l:List UInt8):∀ (k k' p:Nat),l.length-p<k->l.length-p<k'->gK l k p=gK l k' p
 | 0,_,_,h,_=>by omega
 | _,0,_,_,h=>by omega
 |k+1,k'+1,p,h,h'=>by
  unfold gK;split
  ·rename_i hq
   cases hv:dz l (aM l p) with
   | inr e=>rfl
   |inl r =>
    obtain ⟨kd,t,n,m⟩:=r;have:=ki hq hv;have hg:=j7 l p;simp only;rw [oZ l k k' m (by omega) (by omega)]
  ·rfl
def cJ (l:List UInt8) (p:Nat):List aq × Option (Int × Int):=gK l (l.length+1-p) p
theorem uw {l:List UInt8} {p:Nat} (hp:p<=l.length) (h:¬ aM l p<l.length):cJ l p=([(6,l.length,[],0)],none):=by
 unfold cJ;obtain ⟨k,hk⟩:∃ k,l.length+1-p=k+1:=⟨l.length-p,by omega⟩
 rw [hk,gK,if_neg h]
theorem ux {l:List UInt8} {p:Nat} (hp:p<=l.length) (h:aM l p<l.length) {e:Int × Int} (hv:dz l (aM l p)=.inr e):cJ l p=([],some e):=by
 unfold cJ;obtain ⟨k,hk⟩:∃ k,l.length+1-p=k+1:=⟨l.length-p,by omega⟩
 rw [hk,gK,if_pos h,hv]
theorem uy {l:List UInt8} {p:Nat} (hp:p<=l.length) (h:aM l p<l.length) {kd n:Int} {t:List UInt8} {m:Nat} (hv:dz l (aM l p)=.inl (kd,t,n,m)) :
  cJ l p=((kd,aM l p,t,n)::(cJ l m).1,(cJ l m).2):=by
 unfold cJ;obtain ⟨k,hk⟩:∃ k,l.length+1-p=k+1:=⟨l.length-p,by omega⟩
 have h1:=ki h hv;have h2:=j7 l p;rw [hk,gK,if_pos h,hv];simp only;rw [oZ l k (l.length+1-m) m (by omega) (by omega)]
def cX (c:UInt8):Nat:=if aL c then 0 else if bc c then 1 else if c.toNat=34 then 2 else 3
theorem nF {l:List UInt8} {p:Nat} {c:UInt8} (h:l[p]? = some c):dz l p=if cX c=0 then gJ l p else if cX c=1 then eo l p else if cX c=2 then iL l p else gL l p:=by
 unfold dz cX;rw [h];simp only;by_cases h1:aL c=true
 ·simp [h1]
 ·by_cases h2:bc c=true
  ·simp [h1,h2]
  ·by_cases h3:c.toNat=34
   ·simp [h1,h2,h3]
   ·simp [h1,h2,h3]
def nw (r:pg) (p:Nat):Int × Int × ByteArray × Int × Int × Int :=
 match r with
 | .inl (k,t,n,m)=>(k,p,⟨t.toArray⟩,n,m,0)
 | .inr (q,er)=>(0,0,⟨#[]⟩,0,q,er)
theorem fK.uni {r:pg} {p:Nat} {w:World} {g:Nat} {A:Option Addr} {cap:Nat} {l:List UInt8} {e:Ending} {w':World} (h:fK r p w g A cap l e w') :
  e=.returned (uu (nw r p).1 (nw r p).2.1 (nw r p).2.2.1 (nw r p).2.2.2.1)/\a8 w g A cap l (nw r p).2.2.2.2.1 (nw r p).2.2.2.2.2 w':=by
 unfold fK at h;unfold nw;rcases r with ⟨k,t,n,m⟩ | ⟨q,er⟩
 ·exact h
 ·exact h
theorem o4 {l:List UInt8} {p:Nat} (hp:p<l.length) {q er:Int} (h:dz l p=.inr (q,er)):er≠0:=by
 obtain ⟨c,hc⟩:∃ c,l[p]? = some c:=⟨_,List.getElem?_eq_getElem hp⟩
 rw [nF hc] at h;split at h
 ·unfold gJ at h;simp only at h;split at h
  ·cases h
  ·split at h
   ·cases h
   ·simp only [Sum.inr.injEq,Prod.mk.injEq] at h;omega
 ·split at h
  ·unfold eo at h;simp only at h;split at h
   ·cases h
   ·rename_i hn;simp only [Sum.inr.injEq,Prod.mk.injEq] at h;rw [← h.2];exact hn
  ·split at h
   ·unfold iL at h;simp only at h;split at h
    ·cases h
    ·rename_i hn;simp only [Sum.inr.injEq,Prod.mk.injEq] at h;rw [← h.2];exact hn
   ·unfold gL at h;split at h
    ·cases h
    ·simp only [Sum.inr.injEq,Prod.mk.injEq] at h;omega
theorem vC (c:UInt8):cX c<=3:=by unfold cX;(repeat' split)<;>omega
theorem zk {c:UInt8} (h:cX c=0):aL c=true:=by
 unfold cX at h;split at h
 ·assumption
 ·(repeat' split at h)<;>omega
theorem pB {c:UInt8} (h:¬ cX c=0):aL c=false:=by
 unfold cX at h;split at h
 ·omega
 ·rename_i hn;simpa using hn
theorem zl {c:UInt8} (h:cX c=1):bc c=true:=by
 unfold cX at h;split at h
 ·omega
 ·split at h
  ·assumption
  ·split at h<;>omega
theorem tc {c:UInt8} (h:¬ cX c=1) (h0:¬ cX c=0):bc c=false:=by
 have h2:=pB h0;unfold cX at h;rw [h2,if_neg (by simp)] at h;split at h
 ·exact absurd rfl h
 ·rename_i hn;simpa using hn
theorem zm {c:UInt8} (h:cX c=2):decide (c.toNat=34)=true:=by
 unfold cX at h;split at h
 ·omega
 ·split at h
  ·omega
  ·split at h
   ·simpa
   ·omega
theorem xv {c:UInt8} (h:¬ cX c=2) (h0:¬ cX c=0) (h1:¬ cX c=1):decide (c.toNat=34)=false:=by
 have h3:=pB h0;have h4:=tc h1 h0;unfold cX at h;rw [h3,h4] at h;rw [decide_eq_false_iff_not];intro e;rw [if_neg (by simp),if_neg (by simp),if_pos e] at h;exact h rfl
theorem ke {fk:Nat} {g:Nat} {A:Option Addr} {cap:Nat} {l:List UInt8} {q:Nat} (r:pg) (h:∀ W,GOK W->VB W g A cap l q 0->Calls Tryz.prog fk #[Zp (some ⟨g,0,none⟩)] W (fK r q W g A cap l)) :
  ∃ (a bb:Int) (s:ByteArray) (d m y:Int),(a,bb,s,d,m,y)=nw r q/\∀ W,GOK W->VB W g A cap l q 0->Calls Tryz.prog fk #[Zp (some ⟨g,0,none⟩)] W λ e w' =>
   e=.returned (.agg #[Zi Zq a,Zi Zq bb,Zt s,Zi Zq d])/\a8 W g A cap l m y w' :=
 ⟨_,_,_,_,_,_,rfl,λ W hG hV=>(h W hG hV).mono λ _ _ hp=>hp.uni⟩
end
section
def fT (k:Int):Int:=if k=1∨k=2 then 0 else if k=3∨k=5∨k=6∨k=7 then 1 else if k=4 then -1 else 2
mutual
def dpR:Nat->EJ->Nat
 | room,.mk k v s kids=>if room=0 then 13 else if okX k v s kids.length=true then (match dpL (room-1) kids with | none=>0 | some m=>m+1) else 0
def dpL:Nat->List EJ->Option Nat
 | _,[]=>some 0
 | room,x::r=>if dpR room x=0 then none else match dpL room r with | none=>none | some m=>some (max (dpR room x) m)
end
def dpF (r:Nat) (l:List EJ):Nat:=l.foldl (λ m x=>if m<dpR r x then dpR r x else m) 0
theorem mn {r:Nat}:∀ {l:List EJ} {x:EJ},x ∈ l->dpR r x=0->dpL r l=none
 |y::l,x,hx,h0=>by
  unfold dpL;rcases List.mem_cons.1 hx with rfl | hx
  ·rw [if_pos h0]
  ·split
   ·rfl
   ·rw [mn hx h0]
theorem va {r:Nat}:∀ (l:List EJ) (m:Nat),(∀ x ∈ l,dpR r x≠0)->∃ q,dpL r l=some q/\l.foldl (λ m x=>if m<dpR r x then dpR r x else m) m=max m q
 | [],m,_=>⟨0,by rw [dpL],by simp⟩
 |x::l,m,h=>by
  obtain ⟨q,h1,h2⟩:=va l (if m<dpR r x then dpR r x else m) λ y hy=>h y (List.mem_cons_of_mem _ hy)
  refine ⟨max (dpR r x) q,by rw [dpL,if_neg (h x List.mem_cons_self),h1],?_⟩;rw [List.foldl_cons,h2];split<;>omega
theorem mo {r:Nat} {l:List EJ} (h:∀ x ∈ l,dpR r x≠0):dpL r l=some (dpF r l):=by
 obtain ⟨q,h1,h2⟩:=va l 0 h;unfold dpF;rw [h1,h2,Nat.zero_max]
theorem rI {r n:Nat}:∀ {l:List EJ} {q:Nat},dpL r l=some q->(q<n+1 ↔ ∀ x ∈ l,dpR r x<n+1)
 |[],q,h=>by
  rw [dpL] at h;obtain rfl:=Option.some.inj h;simp
 |x::l,q,h=>by
  rw [dpL] at h;split at h
  ·cases h
  ·split at h
   ·cases h
   ·rename_i m hm
    obtain rfl:=Option.some.inj h;have:=rI (n:=n) hm;simp only [List.mem_cons,forall_eq_or_imp,← this];omega
theorem xl {r:Nat}:∀ {l:List EJ} {q:Nat},dpL r l=some q->∀ x ∈ l,dpR r x≠0
 |y::l,q,h,x,hx=>by
  intro e;rw [mn hx e] at h;cases h
theorem oc:∀ (R:Nat) (x:EJ),(dpR R x≠0/\dpR R x<R) ↔ (R≠0/\bj (R-1) x≠0)
 |0,.mk k v s kids=>by
  constructor
  ·rintro ⟨_,h⟩;omega
  ·rintro ⟨h,_⟩;exact absurd rfl h
 |1,.mk k v s kids=>by
  constructor
  ·rintro ⟨h1,h2⟩;omega
  ·rintro ⟨_,h⟩;exact absurd rfl (aR h).1
 |n+2,.mk k v s kids=>by
  have ih:=λ x=>oc (n+1) x
  constructor
  ·rintro ⟨h1,h2⟩;refine ⟨by omega,?_⟩;rw [dpR,if_neg (by omega)] at h1 h2;by_cases hk:okX k v s kids.length=true
   ·rw [if_pos hk] at h1 h2;cases hd:dpL (n+2-1) kids with
    | none=>rw [hd] at h1;exact absurd rfl h1
    |some q =>
     rw [hd] at h2;refine rG (by omega) hk λ x hx=>?_
     have h3:q+1<n+2:=h2;have:=(ih x).1 ⟨xl hd x hx,(rI hd).1 (by omega) x hx⟩;exact this.2
   ·rw [if_neg hk] at h1;exact absurd rfl h1
  ·rintro ⟨_,h⟩;obtain ⟨_,hk,hkids⟩:=aR h;have h9:∀ x ∈ kids,dpR (n+1) x≠0/\dpR (n+1) x<n+1:=λ x hx=>(ih x).2 ⟨by omega,hkids x hx⟩
   rw [dpR,if_neg (by omega),if_pos hk,show n+2-1=n+1 by omega,mo λ x hx=>(h9 x hx).1];refine ⟨by simp,?_⟩;have:=(rI (n:=n) (mo λ x hx=>(h9 x hx).1)).2 λ x hx=>(h9 x hx).2
   show dpF (n+1) kids+1<n+2
   omega
theorem uZ (x:EJ):(1<=dpR 13 x/\dpR 13 x<=12) ↔ fY x:=by
 have:=oc 13 x;unfold fY;constructor
 ·rintro ⟨h1,h2⟩;exact (this.1 ⟨by omega,by omega⟩).2
 ·intro h;have h9:=this.2 ⟨by omega,h⟩;omega
def okA (k:Int) (nk:Nat):Bool:=decide (1<=k/\k<=15) && (decide (fT k<0) || decide ((nk:Int)=fT k))
def okB (k:Int) (v:JV):Bool:=if k=1 then dM v else cV v
def okC (k:Int) (s:List UInt8):Bool:=if k=2∨k=3 then dv s else decide (s=[])
theorem xK (k:Int) (v:JV) (s:List UInt8) (nk:Nat):okX k v s nk=(okA k nk && (okB k v && okC k s)):=by
 have hk:k<1∨15<k∨k=1∨k=2∨k=3∨k=4∨(5<=k/\k<=7)∨(8<=k/\k<=15):=by omega
 unfold okX okA okB okC;rcases hk with h | h | rfl | rfl | rfl | rfl | ⟨h,h'⟩ | ⟨h,h'⟩
 ·have e:decide (1<=k/\k<=15)=false:=decide_eq_false (by omega);rw [e,if_neg (by omega)];split
  ·simp
  ·rw [if_neg (by omega),if_neg (by omega),if_neg (by omega),if_neg (by omega),if_neg (by omega)];simp
 ·have e:decide (1<=k/\k<=15)=false:=decide_eq_false (by omega);rw [e,if_neg (by omega)];split
  ·simp
  ·rw [if_neg (by omega),if_neg (by omega),if_neg (by omega),if_neg (by omega),if_neg (by omega)];simp
 ·simp [fT];cases dM v<;>simp [Bool.and_comm]
 ·simp [fT];cases cV v<;>simp [Bool.and_comm]
 ·have e3:decide ((nk:Int)=1)=decide (nk=1):=by rw [decide_eq_decide];omega
  simp [fT,e3];cases cV v<;>simp [Bool.and_comm]
 ·simp [fT]
 ·have n1:¬ k=1:=by omega
  have n2:¬ k=2:=by omega
  have n3:¬ k=3:=by omega
  have n4:¬ k=4:=by omega
  have n5:5<=k/\k<=7:=by omega
  have n6:¬ (k=2∨k=3):=by omega
  have e:decide (1<=k/\k<=15)=true:=decide_eq_true (by omega);have e2:fT k=1:=by unfold fT;rw [if_neg (by omega),if_pos (by omega)]
  have e3:decide ((nk:Int)=1)=decide (nk=1):=by rw [decide_eq_decide];omega
  rw [if_neg n1,if_neg n1,if_neg n2,if_neg n3,if_neg n4,if_pos n5,if_neg n6,e,e2,e3];cases cV v<;>simp [Bool.and_comm]
 ·have n1:¬ k=1:=by omega
  have n2:¬ k=2:=by omega
  have n3:¬ k=3:=by omega
  have n4:¬ k=4:=by omega
  have n5:¬ (5<=k/\k<=7):=by omega
  have n6:¬ (k=2∨k=3):=by omega
  have n7:8<=k/\k<=15:=by omega
  have e:decide (1<=k/\k<=15)=true:=decide_eq_true (by omega);have e2:fT k=2:=by unfold fT;rw [if_neg (by omega),if_neg (by omega),if_neg (by omega)]
  have e3:decide ((nk:Int)=2)=decide (nk=2):=by rw [decide_eq_decide];omega
  rw [if_neg n1,if_neg n1,if_neg n2,if_neg n3,if_neg n4,if_neg n5,if_pos n7,if_neg n6,e,e2,e3];cases cV v<;>simp [Bool.and_comm]
end
section
open Go.RowKit
attribute [local go_sem] aa ac ae ab
def lR:List UInt8:=[101,109,105,116,32,105,102,32,101,108,115,101,32,102,111,114,32,105,110,32,111,114,32,97,110,100,32,110,111,116,32,115,105,122,101,32,107,105,110,100,32,116,114,117,101,32,102,97,108,115,101,32,110,117,108,108]
theorem nQ:fD lR []=cL:=by decide
def kE:List UInt8:=[97,98,99,100,101,102,103,104,105,106,107,108,109,110,111,112,113,114,115,116,117,118,119,120,121,122]
def ml:List UInt8:=[48,49,50,51,52,53,54,55,56,57]
theorem wG {p:UInt8->Bool} (h:(List.range 256).all (λ n=>p (UInt8.ofNat n))=true) (c:UInt8):p c=true:=by
 have:=List.all_eq_true.1 h c.toNat (List.mem_range.2 c.toNat_lt);simpa using this
theorem pD (c:UInt8):kE.contains c=aL c:=by
 have:=wG (p:=λ c=>kE.contains c == aL c) (by decide +kernel) c;simpa using this
theorem qm (c:UInt8):ml.contains c=bc c:=by
 have:=wG (p:=λ c=>ml.contains c == bc c) (by decide +kernel) c;simpa using this
theorem qU (c:UInt8) (w:World):Calls Tryz.prog 88 #[Zi .u8 c.toNat,Zt ⟨#[97,98,99,100,101,102,103,104,105,106,107,108,109,110,111,112,113,114,115,116,117,118,119,120,121,122]⟩] w λ e w'=>e=.returned (.bool (aL c))/\w=w':=by
 have:=qV c ⟨kE.toArray⟩ w (by decide);rw [eQ,pD] at this;exact this
theorem sj (c:UInt8) (w:World):Calls Tryz.prog 88 #[Zi .u8 c.toNat,Zt ⟨#[48,49,50,51,52,53,54,55,56,57]⟩] w λ e w'=>e=.returned (.bool (bc c))/\w=w':=by
 have:=qV c ⟨ml.toArray⟩ w (by decide);rw [eQ,qm] at this;exact this
theorem uk (s:ByteArray) (w:World):Calls Tryz.prog 118 #[Zt s] w λ e w'=>e=.returned (.bool (dG (sl s)))/\w=w':=by
 have h:=si s ⟨lR.toArray⟩ w (by decide);rw [eQ,nQ] at h;have H:=aW (show Calls Tryz.prog 144 #[Zt s,Zt ⟨lR.toArray⟩] w λ e w'=>e=.returned (.bool (dG (sl s)))/\w=w' from h);clear h;obtain ⟨b,hb⟩:∃ b,dG (sl s)=b:=⟨_,rfl⟩
 rw [hb] at H ⊢;clear hb;unfold lR at H;go_enter Tryz.func118,Tryz.ntmps118;go_wp2_with fail;refine H.out.mono ?_;rintro e w1 ⟨rfl,rfl⟩;go_wp2_with fail;go_ret;exact ⟨rfl,rfl⟩
theorem oH (s:ByteArray) (w:World):Calls Tryz.prog 78 #[Zt s] w λ e w'=>e=.returned (.bool (bI s))/\w=w':=by
 have HW:=aW (uk s);have HL:=aW qU;have HD:=aW sj;by_cases h1:s.size<1
 ·have HN:=aW (show bI s=false by rw [bI,decide_eq_false (show ¬ (1<=s.size/\s.size<=12) by omega)];simp);go_enter Tryz.func78,Tryz.ntmps78;go_wp2;go_ret;exact ⟨am HN.out.symm,rfl⟩
 ·by_cases h2:12<s.size
  ·have HN:=aW (show bI s=false by rw [bI,decide_eq_false (show ¬ (1<=s.size/\s.size<=12) by omega)];simp);go_enter Tryz.func78,Tryz.ntmps78;go_wp2;go_ret;exact ⟨am HN.out.symm,rfl⟩
  ·cases hw:dG (sl s) with
   |true =>
    have HN:=aW (show bI s=false by rw [bI,hw];simp);rw [hw] at HW;clear hw;go_enter Tryz.func78,Tryz.ntmps78;go_wp2_with (go_at_call 118;refine (HW.out _).mono ?_;rintro e w1 ⟨rfl,rfl⟩);go_ret;exact ⟨am HN.out.symm,rfl⟩
   |false =>
    have hN0:bI s=aS 0 (sl s):=by rw [bI,hw,decide_eq_true (show 1<=s.size/\s.size<=12 by omega)];simp
    rw [hw] at HW;have h0:0<s.size:=by omega
    have hd0:sl s=s[0]::(sl s).drop 1:=by
     have:=List.drop_eq_getElem_cons (l:=sl s) (i:=0) (by rw [cA];exact h0);rw [List.drop_zero] at this;exact this
    obtain ⟨c,hc⟩:∃ c,s[0]=c:=⟨_,rfl⟩
    rw [hc] at hd0;cases hl:aL c with
    |false =>
     have HN:=aW (show bI s=false by rw [hN0,hd0,aS,hl];simp);have HC:=aW (HL.out c);rw [hl] at HC;clear hw hN0 hd0 hl HL;go_enter Tryz.func78,Tryz.ntmps78;go_wp2_with (first | (go_at_call 118;refine (HW.out _).mono ?_;rintro e w1 ⟨rfl,rfl⟩) | (go_at_call 88;refine (HC.out _).mono ?_;rintro e w1 ⟨rfl,rfl⟩));go_ret;exact ⟨am HN.out.symm,rfl⟩
    |true =>
     have hN1:bI s=aS 1 ((sl s).drop 1):=by rw [hN0,hd0,aS,hl];simp
     obtain ⟨b,hb⟩:∃ b,bI s=b:=⟨_,rfl⟩
     rw [hb] at hN1 ⊢;have HN1:=aW hN1;have HC:=aW (HL.out c);rw [hl] at HC;have hs12:s.size<=12:=by omega
     clear hw hN0 hd0 hl hN1 hb h1 h2;go_enter Tryz.func78,Tryz.ntmps78;go_wp2_with (first | (go_at_call 118;refine (HW.out _).mono ?_;rintro e w1 ⟨rfl,rfl⟩) | (go_at_call 88;refine (HC.out _).mono ?_;rintro e w1 ⟨rfl,rfl⟩));clear hc;go_loopw [3] (λ i wr => ∃ k:Nat,k<=s.size/\1<=k/\i=Zi Zq k/\wr=w/\Hid (b=aS k ((sl s).drop k))) (λ i _=>s.size-(intOf i).toNat)
     case atStart=>exact ⟨1,by omega,by omega,rfl,rfl,HN1⟩
     case round =>
      obtain ⟨k,hk,hk1,rfl,rfl,hrb⟩:=hrel;by_cases hlt:k<s.size
      ·have hd:(sl s).drop k=s[k]::(sl s).drop (k+1):=List.drop_eq_getElem_cons (by rw [cA];exact hlt);obtain ⟨x,hx⟩:∃ x,s[k]=x:=⟨_,rfl⟩
       rw [hx] at hd;cases hxl:aL x with
       |true =>
        have HX:=aW (HL.out x);rw [hxl] at HX;have HR:=aW (show b=aS (k+1) ((sl s).drop (k+1)) by rw [hrb.out,hd,aS,hxl];simp);clear hd hxl hrb;go_wp2_with (go_at_call 88;refine (HX.out _).mono ?_;rintro e w1 ⟨rfl,rfl⟩);go_roundw
        case rel=>exact ⟨k+1,hlt,by omega,by go_num,by trivial,HR⟩
        case measure=>simp [intOf];omega
       |false =>
        have HX:=aW (HL.out x);rw [hxl] at HX;cases hxd:bc x with
        |true =>
         have HY:=aW (HD.out x);rw [hxd] at HY;have HR:=aW (show b=aS (k+1) ((sl s).drop (k+1)) by rw [hrb.out,hd,aS,hxl,hxd,decide_eq_true (show 0<k by omega)];simp);clear hd hxl hrb hxd;go_wp2_with fail;refine (HX.out _).mono ?_;rintro e w1 ⟨rfl,rfl⟩;go_wp2_with fail;refine (HY.out _).mono ?_;rintro e w1 ⟨rfl,rfl⟩;go_wp2_with fail;go_roundw
         case rel=>exact ⟨k+1,hlt,by omega,by go_num,by trivial,HR⟩
         case measure=>simp [intOf];omega
        |false =>
         have HY:=aW (HD.out x);rw [hxd] at HY;have HR:=aW (show b=false by rw [hrb.out,hd,aS,hxl,hxd];simp);clear hd hxl hrb hxd;go_wp2_with fail;refine (HX.out _).mono ?_;rintro e w1 ⟨rfl,rfl⟩;go_wp2_with fail;refine (HY.out _).mono ?_;rintro e w1 ⟨rfl,rfl⟩;go_wp2_with fail;go_ret;exact ⟨am HR.out.symm,rfl⟩
      ·obtain rfl:k=s.size:=by omega
       have HR:=aW (show b=true by rw [hrb.out,List.drop_eq_nil_of_le (by rw [cA];exact Nat.le_refl _),aS]);clear hrb;go_wp2;go_ret;exact ⟨am HR.out.symm,rfl⟩
end
end Go.Proofs.YtgmnmnnoahdjnaaGreatDoor
