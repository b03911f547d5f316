import Derived.Test.YtgmnmnnoahdjnaaGreatDoorB16
import Derived.Test.YtgmnmnnoahdjnaaGreatDoorB14
import Derived.Test.YtgmnmnnoahdjnaaGreatDoorB15
import Derived.Deep.CutBlock
set_option maxRecDepth 100000
set_option maxHeartbeats 16000000
set_option linter.unusedVariables false
set_option linter.unusedSimpArgs false
namespace Go.Proofs.YtgmnmnnoahdjnaaGreatDoor
section
mutual
/-- how much an expression is in all -/
def ff:EJ→Nat | .mk _ v s kids=>1+cZ v+s.length+cQ kids
def cQ:List EJ→Nat | []=>0 | x::r=>ff x+cQ r
end
mutual
/-- how much a statement is in all -/
def gJ:SJ→Nat | .mk _ s a b body els=>1+s.length+ff a+ff b+cJ body+cJ els
def cJ:List SJ→Nat | []=>0 | x::r=>gJ x+cJ r
end
theorem np:∀ l:List EJ,cQ l=(l.map ff).sum
 | []=>rfl
 | x::r=>by unfold cQ;rw [np r];rfl
theorem iG:∀ l:List SJ,cJ l=(l.map gJ).sum
 | []=>rfl
 | x::r=>by unfold cJ;rw [iG r];rfl
theorem ma:∀ (n:Nat) (l:List EJ),cQ (l.take n)≤cQ l
 | 0,l=>by simp [cQ]
 | n+1,[]=>Nat.le_refl _
 | n+1,x::r=>by have:=ma n r;rw [List.take_succ_cons,cQ,cQ];omega
theorem mc:∀ (n:Nat) (l:List SJ),cJ (l.take n)≤cJ l
 | 0,l=>by simp [cJ]
 | n+1,[]=>Nat.le_refl _
 | n+1,x::r=>by have:=mc n r;rw [List.take_succ_cons,cJ,cJ];omega
theorem pQ {f:EJ→EJ}:∀ (l:List EJ),(∀ x ∈ l,ff (f x)≤ff x)→cQ (l.map f)≤cQ l
 | [],_=>Nat.le_refl _
 |x::r,h=>by
  rw [List.map_cons,cQ,cQ];have h1:=h x List.mem_cons_self;have h2:=pQ r fun y hy=>h y (List.mem_cons_of_mem _ hy)
  omega
theorem pR {f:SJ→SJ}:∀ (l:List SJ),(∀ x ∈ l,gJ (f x)≤gJ x)→cJ (l.map f)≤cJ l
 | [],_=>Nat.le_refl _
 |x::r,h=>by
  rw [List.map_cons,cJ,cJ];have h1:=h x List.mem_cons_self;have h2:=pR r fun y hy=>h y (List.mem_cons_of_mem _ hy)
  omega
end
section
open Go.RowKit
theorem mO {d:Nat} {k n:Int} {s:List UInt8} {kids:List JV} {keys:List (List UInt8)} (h:iN d (.mk k n s kids keys)=true):cC k n s kids.length keys=true∧(5≤k→d≠0)∧gU (d-1) kids=true:=by
 unfold iN at h;simp only [Bool.and_eq_true,decide_eq_true_eq] at h;exact ⟨h.1,h.2.1,h.2.2⟩
theorem keyed {k n:Int} {s:List UInt8} {nk:Nat} {keys:List (List UInt8)} (h:cC k n s nk keys=true):(k=6→keys.length=nk)∧(k≠6→keys=[]):=by
 have h1:=e7 h;refine ⟨fun e=>?_,fun e=>?_⟩
 ·subst e;exact (sj h).2.2.1.symm
 ·rcases Int.lt_or_le k 5 with h2 | h2
  ·exact (lu h h2).2
  ·obtain rfl:k=5:=by omega
   exact (qA h).2.2
def gd (v:JV):Prop:=good v=true
theorem gd.j {v:JV} (h:gd v):iN 8 v=true:=by unfold gd good at h;rw [Bool.and_eq_true] at h;exact h.1
end
section
def fy (v:JV):Bool:=good v && (decide (v.kind=3∧0≤v.num) || decide (v.kind=1∨v.kind=2∨v.kind=4))
def fh:JV→Bool | .mk k n s kids keys=>decide (k=0∧n=0∧s=[]∧kids.length+keys.length=0)
def eC (s:List UInt8):Bool:=cV ⟨s.toArray⟩
def okX (k:Int) (v:JV) (s:List UInt8) (nk:Nat):Bool :=
 if k=1 then fy v && decide (s=[]∧nk=0)
 else if fh v=false then false
 else if k=2 then eC s && decide (nk=0)
 else if k=3 then eC s && decide (nk=1)
 else if k=4 then decide (s=[])
 else if 5≤k∧k≤7 then decide (s=[]∧nk=1)
 else if 8≤k∧k≤15 then decide (s=[]∧nk=2)
 else false
mutual
/-- how deep an expression is that may be,within so many levels;0: it may not be -/
def bi:Nat→EJ→Nat
 | room,.mk k v s kids=>if room=0 then 0 else if okX k v s kids.length=true then (match cH (room-1) kids with | none=>0 | some m=>m+1) else 0
def cH:Nat→List EJ→Option Nat
 | _,[]=>some 0
 | room,x::r=>if bi room x=0 then none else match cH room r with | none=>none | some m=>some (max (bi room x) m)
end
def nV (x:EJ):Prop:=bi 12 x≠0
instance (x:EJ):Decidable (nV x):=by unfold nV;infer_instance
def fF:EJ→Bool | .mk k v s kids=>decide (k=0∧s=[]∧kids.length=0) && fh v
mutual
/-- may a statement be,within so many levels? -/
def kH:Nat→SJ→Bool
 | room,.mk k s a b body els=>decide (room≠0) && (decide (nV a) &&
   (if k=1 then decide (nV b) && decide (s=[]∧body.length+els.length=0)
    else if k=2 then fF b && (decide (s=[]) && (cF (room-1) body && cF (room-1) els))
    else if k=3 then fF b && (eC s && (cF (room-1) body && decide (els.length=0)))
    else false))
def cF:Nat→List SJ→Bool
 | _,[]=>true
 | room,x::r=>kH room x && cF room r
end
def jz (l:List SJ):Bool:=cF 12 l
theorem lI {d:Nat}:∀ {xs:List SJ},cF d xs=true ↔ ∀ x ∈ xs,kH d x=true
 | []=>by simp [cF]
 | x::r=>by simp [cF,lI (xs:=r)]
theorem qr {r:Nat} {x:EJ} {l:List EJ}:cH r (x::l)≠none ↔ bi r x≠0∧cH r l≠none:=by
 rw [cH];by_cases h:bi r x=0
 ·rw [if_pos h];simp [h]
 ·rw [if_neg h];cases hd:cH r l<;>simp [h]
theorem jP {r:Nat}:∀ {l:List EJ},cH r l≠none ↔ ∀ x ∈ l,bi r x≠0
 | []=>by simp [cH]
 | x::l=>by rw [qr,jP (l:=l)];simp
theorem bR {r:Nat} {k:Int} {v:JV} {s:List UInt8} {kids:List EJ} (h:bi r (.mk k v s kids)≠0):r≠0∧okX k v s kids.length=true∧∀ x ∈ kids,bi (r-1) x≠0:=by
 unfold bi at h;by_cases h0:r=0
 ·rw [if_pos h0] at h;exact absurd rfl h
 ·rw [if_neg h0] at h;by_cases h1:okX k v s kids.length=true
  ·rw [if_pos h1] at h;refine ⟨h0,h1,jP.1 fun e=>?_⟩;rw [e] at h;exact h rfl
  ·rw [if_neg h1] at h;exact absurd rfl h
def gF (b:Bool):JV:=.mk 2 (if b=true then 1 else 0) [] [] []
def n8 (n:Int):JV:=.mk 3 n [] [] []
def kn (s:List UInt8):JV:=.mk 4 0 s [] []
theorem ui {d:Nat} {l m:List SJ}:cF d (l++m)=(cF d l && cF d m):=by
 induction l with
 | nil=>simp [cF]
 | cons x r ih=>show (kH d x && cF d (r++m))=_;rw [ih,cF,Bool.and_assoc]
end
section
open Go.RowKit
attribute [local go_sem] aa ac ae ab
def bF:List (List UInt8):=[[61,61],[60,61],[60],[59],[46],[44],[91],[93],[40],[41],[123],[125],[43],[45],[42]]
def uP:Value:=.agg (bF.map fun l=>Value.string ⟨l.toArray⟩).toArray
theorem ro (w:World):Calls Tryz.prog 170 #[] w fun e w'=>e=.returned uP∧Below w.heap.size w w':=by
 go_enter Tryz.func170,Tryz.ntmps170;go_wp2;go_returns;exact ⟨rfl,by go_grown⟩
theorem uQ (k:Nat) (h:k<15) (w:World):(Instr.index 205 uP (.int .i64 (k:Int))).run Tryz.prog w=.ok (.string ⟨(bF.getD k []).toArray⟩) w:=by
 rcases (by omega:k=0∨k=1∨k=2∨k=3∨k=4∨k=5∨k=6∨k=7∨k=8∨k=9∨k=10∨k=11∨k=12∨k=13∨k=14) with rfl | rfl | rfl | rfl | rfl | rfl | rfl | rfl | rfl | rfl | rfl | rfl | rfl | rfl | rfl<;>kernel_rfl
def dm (l:List UInt8) (p:Nat) (s:List UInt8):Bool:=decide ((l.drop p).take s.length=s)
def cT (l:List UInt8) (p:Nat):List (List UInt8)→Option (List UInt8)
 | []=>none
 | s::r=>if dm l p s then some s else cT l p r
def fD (l:List UInt8) (p:Nat):nJ:=match cT l p bF with | some s=>.inl (5,s,0,p+s.length) | none=>.inr (p,320)
theorem q9 {k:Nat} (h:k<15):1≤(bF.getD k []).length∧(bF.getD k []).length≤2:=by
 have:∀ k:Fin 15,1≤(bF.getD k []).length∧(bF.getD k []).length≤2:=by decide
 exact this ⟨k,h⟩
theorem tf (w:World) (g:Nat) (A:Option Addr) (cap:Nat) (l:List UInt8) (p:Nat) (hV:VB w g A cap l p 0) (hp:p<l.length) (hcap:l.length≤cap) (hlen:l.length≤4194304) :
  Calls Tryz.prog 133 #[.pointer (some ⟨g,0,none⟩)] w (fl (fD l p) p w g A cap l):=by
 obtain ⟨hc,hf,hlt⟩:=hV.1.rules;have hgw:g<w.heap.size:=hV.1.lt;obtain ⟨b,o,rfl,hb,_⟩:=hV.byte (List.getElem?_eq_getElem hp);have HV:=aW hV;clear hV;unfold cA at hc;obtain ⟨W0,hW0⟩:∃ W0,w.alloc (.cells #[.int .i64 0,.int .i64 0,.string ⟨#[]⟩,.int .i64 0] 86)=W0:=⟨_,rfl⟩
 have hst0:aO w g (some ⟨b,o,none⟩) cap l p 0 W0:=by rw [← hW0];exact (aO.refl HV.out).alloc _
 have hr0:Blk W0 w.heap.size 86 #[.int .i64 0,.int .i64 0,.string ⟨#[]⟩,.int .i64 0]:=by rw [← hW0];exact Blk.new _ _ _
 go_enter Tryz.func133,Tryz.ntmps133;go_wp2_with (go_at_call 170;refine (ro _).mono ?_;rintro e w1 ⟨rfl,hb1⟩);have hst1:=hst0.keep hb1;have hr1:=hr0.keep hb1;clear hW0 hc hf hlt hst0 hr0 hb;go_loopw [4,5,8] (fun _ _ i wr => ∃ k:Nat,k≤15∧i=.int .i64 k∧cT l p bF=cT l p (bF.drop k)∧∃ j,wr=w1.drewN j) (fun _ _ i _=>15-(intOf i).toNat)
 case atStart=>exact ⟨0,by omega,rfl,rfl,0,rfl⟩
 case round =>
  obtain ⟨k,hk,rfl,hfa,j,rfl⟩:=hrel;obtain ⟨hc,hf,hlt⟩:=hst1.1.1.rules;unfold cA at hc;by_cases h15:k<15
  ·have hix:=uQ k h15 (w1.drewN j);have hsl:=q9 h15;have hd:bF.drop k=bF.getD k []::bF.drop (k+1):=by
    rw [List.drop_eq_getElem_cons (show k<bF.length from h15),List.getD_eq_getElem?_getD,List.getElem?_eq_getElem (show k<bF.length from h15)];rfl
   rw [hd] at hfa;obtain ⟨s,hs⟩:∃ s,bF.getD k []=s:=⟨_,rfl⟩
   rw [hs] at hix hfa hsl;have hsz:(⟨s.toArray⟩:ByteArray).size=s.length:=by simp [ByteArray.size]
   have HF:=aW hfa;clear hs hd hfa;by_cases hend:p+s.length≤l.length
   ·have hcv:∀ j,(convert 67 9 (.slice (some ⟨b,o+p,none⟩) s.length (cap-p))).run Tryz.prog (w1.drewN j)=.ok (.string ⟨((l.drop p).take s.length).toArray⟩) (w1.drewN j):=fun j=>by
     have h:=jF (w:=w1.drewN j) (p:=p) (k:=p+s.length) (by omega) hend hcap (by rw [show p+s.length-p=s.length from by omega];exact (oA hst1.1.2).drewN j);rw [show p+s.length-p=s.length from by omega] at h;exact h
    have hgt:decide ((p:Int)+(s.length:Int)≤(l.length:Int))=true:=by rw [decide_eq_true_eq];omega
    have h1:p+s.length-p=s.length:=by omega
    have h2:p+s.length≤cap:=by omega
    have h3:¬ cap=p:=by omega
    obtain ⟨x,hx⟩:∃ x,(l.drop p).take s.length=x:=⟨_,rfl⟩
    rw [hx] at hcv;have HX:=aW hx;clear hx;by_cases hxs:x=s
    ·subst hxs;have HY:=aW (show dm l p x=true by unfold dm;rw [HX.out];simp);go_wp2;go_quiet (fail);obtain ⟨W2,hW2⟩:∃ W2,(w1.drewN j).drewN nq=W2:=⟨_,rfl⟩
     have hst2:aO w g (some ⟨b,o,none⟩) cap l p 0 W2:=by rw [← hW2];exact (hst1.drewN _).drewN _
     have hr2:Blk W2 w.heap.size 86 #[.int .i64 0,.int .i64 0,.string ⟨#[]⟩,.int .i64 0]:=by rw [← hW2];exact (hr1.drewN _).drewN _
     rw [hW2];clear hW2 hcv hix hc hf hlt hgt h1 h2 h3 hst1 hr1;obtain ⟨hc,hf,hlt⟩:=hst2.1.1.rules;unfold cA at hc;obtain ⟨cr,fr,lr⟩:=hr2.rules;go_wp2;have hR3:=hr2.far (p:=⟨g,0,none⟩) (show w.heap.size≠g by omega) (.int .i64 ((p:Int)+(x.length:Int)));obtain ⟨cf,_,_⟩:=((Blk.put4 hR3 (.int .i64 5) (.int .i64 p) (.string ⟨x.toArray⟩) (.int .i64 0)).alloc (.cells #[.int .i64 5,.int .i64 p,.string ⟨x.toArray⟩,.int .i64 0] 86)).rules;refine bodyPost_ret (v:=.agg #[.int .i64 5,.int .i64 p,.string ⟨x.toArray⟩,.int .i64 0]) (by simp only [results,Tryz.results133];go_simp) rfl ?_;have hv:fD l p=.inl (5,x,0,p+x.length):=by unfold fD;rw [HF.out,cT,HY.out];rfl
     rw [hv];exact ⟨rfl,((hst2.set0 _).put4 hR3 (Nat.le_refl _) hgw _ _ _ _).alloc _⟩
    ·have HY:=aW (show dm l p s=false by unfold dm;rw [HX.out];simpa using hxs);have hbe:(x == s)=false:=by simpa using hxs
     go_wp2;go_quiet (fail);go_wp2;go_roundw
     case rel=>exact ⟨k+1,by omega,by go_num,by rw [HF.out,cT,HY.out];rfl,_,rfl⟩
     case measure=>simp [intOf];omega
   ·have HN:=aW (show dm l p s=false by
     unfold dm;rw [decide_eq_false_iff_not];intro e;have:=congrArg List.length e;simp at this;omega)
    have hgt:decide ((p:Int)+(s.length:Int)≤(l.length:Int))=false:=by rw [decide_eq_false_iff_not];omega
    go_wp2;go_quiet (fail);go_wp2;go_roundw
    case rel=>exact ⟨k+1,by omega,by go_num,by rw [HF.out,cT,HN.out];rfl,_,rfl⟩
    case measure=>simp [intOf];omega
  ·obtain rfl:k=15:=by omega
   have hv:fD l p=.inr (p,320):=by unfold fD;rw [hfa,List.drop_eq_nil_of_le (by decide)];rfl
   have HVV:=aW hv;clear hfa hv;go_wp2_with (go_at_call 167;refine (fU _ g _ cap l _ _ _ _ (hst1.drewN _).1).mono ?_;rintro e w3 ⟨rfl,hst5⟩;have hR3:=(hr1.drewN j).grown hst5.2 (by simp;omega);obtain ⟨cr3,fr3,lr3⟩:=hR3.rules;unfold gD);obtain ⟨cf,_,_⟩:=(Blk.put4 hR3 (.int .i64 0) (.int .i64 0) (.string ⟨#[]⟩) (.int .i64 0)).rules;refine bodyPost_ret (v:=.agg #[.int .i64 0,.int .i64 0,.string ⟨#[]⟩,.int .i64 0]) (by simp only [results,Tryz.results133];go_simp) rfl ?_;rw [HVV.out];exact ⟨rfl,((hst1.drewN j).trans hst5).put4 hR3 (Nat.le_refl _) hgw _ _ _ _⟩
def kA (g:Nat):Array Value:=#[.func (.func 122) #[] #[],.func (.func 128) #[.pointer (some ⟨g,0,none⟩)] #[],
 .func (.func 123) #[] #[],.func (.func 129) #[.pointer (some ⟨g,0,none⟩)] #[],
 .func (.func 130) #[] #[],.func (.func 131) #[.pointer (some ⟨g,0,none⟩)] #[],
 .func (.func 132) #[] #[],.func (.func 133) #[.pointer (some ⟨g,0,none⟩)] #[]]
theorem ri (g:Nat) (w:World) :
  Calls Tryz.prog 84 #[.pointer (some ⟨g,0,none⟩)] w fun e w'=>e=.returned (.func (.func 134) #[] #[.pointer (some ⟨w.heap.size,0,none⟩),.pointer (some ⟨w.heap.size+1,0,none⟩)]) ∧
   Blk w' w.heap.size 109 #[.pointer (some ⟨g,0,none⟩)]∧Blk w' (w.heap.size+1) 165 (kA g)∧w'.heap.size=w.heap.size+2∧Below w.heap.size w w':=by
 have hmf:∀ (fn:Fn) (first cap:Array Value) (w:World),(Instr.makeFunc fn first cap).run Tryz.prog w=.ok (.func fn first cap) w:=fun _ _ _ _=>rfl
 go_enter Tryz.func84,Tryz.ntmps84;go_wp2;go_ret;refine ⟨rfl,(Blk.new w _ _).alloc _,?_,by simp,by go_grown⟩;have:=Blk.new (w.alloc (.cells #[.pointer (some ⟨g,0,none⟩)] 109)) 165 (kA g);rw [World.size_alloc] at this;exact this
end
section
open Go.RowKit
def cX (l:List UInt8) (p:Nat):nJ :=
 match l[p]? with
 | some c=>if aM c then fg l p else if aR c then dE l p else if c.toNat=34 then gH l p else fD l p
 | none=>.inr (0,0)
theorem fu {l:List UInt8} {p:Nat}:∀ {ss:List (List UInt8)} {s:List UInt8},cT l p ss=some s→s ∈ ss∧dm l p s=true
 | [],s,h=>by cases h
 |x::r,s,h=>by
  unfold cT at h;split at h
  ·rename_i hx;cases h;exact ⟨List.mem_cons_self,hx⟩
  ·have:=fu h;exact ⟨List.mem_cons_of_mem _ this.1,this.2⟩
theorem jJ {l:List UInt8} {p:Nat} {k n:Int} {t:List UInt8} {m:Nat} (hp:p<l.length) (h:cX l p=.inl (k,t,n,m)):p<m∧m≤l.length:=by
 unfold cX at h;rw [List.getElem?_eq_getElem hp] at h;simp only at h;split at h
 ·rename_i hc
  have hld:cU l[p]=true:=by rw [cU,hc];rfl
  have ht:=oc (List.getElem?_eq_getElem hp) hld;have hlen:((l.drop p).takeWhile cU).length≤l.length-p:=by
   have:=(List.takeWhile_sublist cU (l:=l.drop p)).length_le;simpa using this
  have hpos:0<((l.drop p).takeWhile cU).length:=by rw [ht];simp
  unfold fg at h;simp only at h;split at h
  ·simp only [Sum.inl.injEq,Prod.mk.injEq] at h;omega
  ·split at h
   ·simp only [Sum.inl.injEq,Prod.mk.injEq] at h;omega
   ·cases h
 ·split at h
  ·unfold dE at h;simp only at h;split at h
   ·rename_i he
    obtain ⟨m',h1,h2,h3⟩:=og he;simp only [Sum.inl.injEq,Prod.mk.injEq] at h;rw [h1] at h;simp only [Int.toNat_natCast] at h;omega
   ·cases h
  ·split at h
   ·unfold gH at h;simp only at h;split at h
    ·rename_i he
     obtain ⟨m',h1,h2,h3⟩:=pJ he;simp only [Sum.inl.injEq,Prod.mk.injEq] at h;rw [h1] at h;simp only [Int.toNat_natCast] at h;omega
    ·cases h
   ·unfold fD at h;cases hf:cT l p bF with
    | none=>rw [hf] at h;cases h
    |some s =>
     rw [hf] at h;simp only [Sum.inl.injEq,Prod.mk.injEq] at h;obtain ⟨hmem,hst⟩:=fu hf;have h1:1≤s.length:=by
      have:∀ x ∈ bF,1≤x.length:=by decide
      exact this s hmem
     unfold dm at hst;have h2:=congrArg List.length (of_decide_eq_true hst);simp at h2;omega
def eO (l:List UInt8):Nat→Nat→List ak × Option (Int × Int)
 | 0,_=>([],none)
 |k+1,p =>
  if aG l p<l.length then
   match cX l (aG l p) with
   | .inl (kd,t,n,m)=>((kd,aG l p,t,n)::(eO l k m).1,(eO l k m).2)
   | .inr e=>([],some e)
  else ([(6,l.length,[],0)],none)
theorem nB (l:List UInt8):∀ (k k' p:Nat),l.length-p<k→l.length-p<k'→eO l k p=eO l k' p
 | 0,_,_,h,_=>by omega
 | _,0,_,_,h=>by omega
 |k+1,k'+1,p,h,h'=>by
  unfold eO;split
  ·rename_i hq
   cases hv:cX l (aG l p) with
   | inr e=>rfl
   |inl r =>
    obtain ⟨kd,t,n,m⟩:=r;have:=jJ hq hv;have hg:=ig l p;simp only;rw [nB l k k' m (by omega) (by omega)]
  ·rfl
def cB (l:List UInt8) (p:Nat):List ak × Option (Int × Int):=eO l (l.length+1-p) p
theorem sY {l:List UInt8} {p:Nat} (hp:p≤l.length) (h:¬ aG l p<l.length):cB l p=([(6,l.length,[],0)],none):=by
 unfold cB;obtain ⟨k,hk⟩:∃ k,l.length+1-p=k+1:=⟨l.length-p,by omega⟩
 rw [hk,eO,if_neg h]
theorem sZ {l:List UInt8} {p:Nat} (hp:p≤l.length) (h:aG l p<l.length) {e:Int × Int} (hv:cX l (aG l p)=.inr e):cB l p=([],some e):=by
 unfold cB;obtain ⟨k,hk⟩:∃ k,l.length+1-p=k+1:=⟨l.length-p,by omega⟩
 rw [hk,eO,if_pos h,hv]
theorem ta {l:List UInt8} {p:Nat} (hp:p≤l.length) (h:aG l p<l.length) {kd n:Int} {t:List UInt8} {m:Nat} (hv:cX l (aG l p)=.inl (kd,t,n,m)) :
  cB l p=((kd,aG l p,t,n)::(cB l m).1,(cB l m).2):=by
 unfold cB;obtain ⟨k,hk⟩:∃ k,l.length+1-p=k+1:=⟨l.length-p,by omega⟩
 have h1:=jJ h hv;have h2:=ig l p;rw [hk,eO,if_pos h,hv];simp only;rw [nB l k (l.length+1-m) m (by omega) (by omega)]
def cP (c:UInt8):Nat:=if aM c then 0 else if aR c then 1 else if c.toNat=34 then 2 else 3
theorem mr {l:List UInt8} {p:Nat} {c:UInt8} (h:l[p]? = some c):cX l p=if cP c=0 then fg l p else if cP c=1 then dE l p else if cP c=2 then gH l p else fD l p:=by
 unfold cX cP;rw [h];simp only;by_cases h1:aM c=true
 ·simp [h1]
 ·by_cases h2:aR c=true
  ·simp [h1,h2]
  ·by_cases h3:c.toNat=34
   ·simp [h1,h2,h3]
   ·simp [h1,h2,h3]
def mj (r:nJ) (p:Nat):Int × Int × ByteArray × Int × Int × Int :=
 match r with
 | .inl (k,t,n,m)=>(k,p,⟨t.toArray⟩,n,m,0)
 | .inr (q,er)=>(0,0,⟨#[]⟩,0,q,er)
theorem fl.uni {r:nJ} {p:Nat} {w:World} {g:Nat} {A:Option Addr} {cap:Nat} {l:List UInt8} {e:Ending} {w':World} (h:fl r p w g A cap l e w') :
  e=.returned (sW (mj r p).1 (mj r p).2.1 (mj r p).2.2.1 (mj r p).2.2.2.1)∧aO w g A cap l (mj r p).2.2.2.2.1 (mj r p).2.2.2.2.2 w':=by
 unfold fl at h;unfold mj;rcases r with ⟨k,t,n,m⟩ | ⟨q,er⟩
 ·exact h
 ·exact h
theorem nC {l:List UInt8} {p:Nat} (hp:p<l.length) {q er:Int} (h:cX l p=.inr (q,er)):er≠0:=by
 obtain ⟨c,hc⟩:∃ c,l[p]? = some c:=⟨_,List.getElem?_eq_getElem hp⟩
 rw [mr hc] at h;split at h
 ·unfold fg at h;simp only at h;split at h
  ·cases h
  ·split at h
   ·cases h
   ·simp only [Sum.inr.injEq,Prod.mk.injEq] at h;omega
 ·split at h
  ·unfold dE at h;simp only at h;split at h
   ·cases h
   ·rename_i hn;simp only [Sum.inr.injEq,Prod.mk.injEq] at h;rw [← h.2];exact hn
  ·split at h
   ·unfold gH at h;simp only at h;split at h
    ·cases h
    ·rename_i hn;simp only [Sum.inr.injEq,Prod.mk.injEq] at h;rw [← h.2];exact hn
   ·unfold fD at h;split at h
    ·cases h
    ·simp only [Sum.inr.injEq,Prod.mk.injEq] at h;omega
theorem t9 (c:UInt8):cP c≤3:=by unfold cP;(repeat' split)<;>omega
theorem xq {c:UInt8} (h:cP c=0):aM c=true:=by
 unfold cP at h;split at h
 ·assumption
 ·(repeat' split at h)<;>omega
theorem ob {c:UInt8} (h:¬ cP c=0):aM c=false:=by
 unfold cP at h;split at h
 ·omega
 ·rename_i hn;simpa using hn
theorem xr {c:UInt8} (h:cP c=1):aR c=true:=by
 unfold cP at h;split at h
 ·omega
 ·split at h
  ·assumption
  ·split at h<;>omega
theorem rC {c:UInt8} (h:¬ cP c=1) (h0:¬ cP c=0):aR c=false:=by
 have h2:=ob h0;unfold cP at h;rw [h2,if_neg (by simp)] at h;split at h
 ·exact absurd rfl h
 ·rename_i hn;simpa using hn
theorem xt {c:UInt8} (h:cP c=2):decide (c.toNat=34)=true:=by
 unfold cP at h;split at h
 ·omega
 ·split at h
  ·omega
  ·split at h
   ·simpa
   ·omega
theorem vJ {c:UInt8} (h:¬ cP c=2) (h0:¬ cP c=0) (h1:¬ cP c=1):decide (c.toNat=34)=false:=by
 have h3:=ob h0;have h4:=rC h1 h0;unfold cP at h;rw [h3,h4] at h;rw [decide_eq_false_iff_not];intro e;rw [if_neg (by simp),if_neg (by simp),if_pos e] at h;exact h rfl
theorem jG {fk:Nat} {g:Nat} {A:Option Addr} {cap:Nat} {l:List UInt8} {q:Nat} (r:nJ) (h:∀ W,GOK W→VB W g A cap l q 0→Calls Tryz.prog fk #[.pointer (some ⟨g,0,none⟩)] W (fl r q W g A cap l)) :
  ∃ (a bb:Int) (s:ByteArray) (d m y:Int),(a,bb,s,d,m,y)=mj r q∧∀ W,GOK W→VB W g A cap l q 0→Calls Tryz.prog fk #[.pointer (some ⟨g,0,none⟩)] W fun e w' =>
   e=.returned (.agg #[.int .i64 a,.int .i64 bb,.string s,.int .i64 d])∧aO W g A cap l m y w' :=
 ⟨_,_,_,_,_,_,rfl,fun W hG hV=>(h W hG hV).mono fun _ _ hp=>hp.uni⟩
end
section
open Go.RowKit Go.Shelf
attribute [local go_sem] aa ac ae ab Oper.semAt_some
def StV (g:Nat) (A:Option Addr) (cap:Nat) (l:List UInt8) (X Y:World):Prop:=World.grownBy X Y (some g)∧((∃ p why,VB X g A cap l p why)→∃ p why,VB Y g A cap l p why)
theorem StV.of_below {g:Nat} {A:Option Addr} {cap:Nat} {l:List UInt8} {X Y:World} (h:Below X.heap.size X Y):StV g A cap l X Y :=
 ⟨⟨h.os,h.tape,h.output,h.size,fun i hi _=>h.block i hi⟩,fun ⟨p,why,hv⟩=>⟨p,why,hv.keep h⟩⟩
theorem StV.of_step {g:Nat} {A:Option Addr} {cap:Nat} {l:List UInt8} {X Y:World} {p why:Int} (h:aO X g A cap l p why Y):StV g A cap l X Y:=⟨h.2,fun _=>⟨p,why,h.1⟩⟩
def tO (x:ak):Array Value:=#[sW x.1 x.2.1 ⟨x.2.2.1.toArray⟩ x.2.2.2]
def KpV (B0 g rb wb:Nat):World→World→Prop:=aN fun k=>k<B0∨k=g∨k=rb∨k=wb
def wB (g:Nat) (A:Option Addr) (cap:Nat) (l:List UInt8) (p0:Nat) (xs:List ak) (W:World):Prop :=
 xs=(cB l p0).1∧∃ q er:Int,VB W g A cap l q er∧(cB l p0).2=if er=0 then none else some (q,er)
theorem VB.keepOn {S:Nat→Prop} {w W:World} {g:Nat} {A:Option Addr} {cap:Nat} {l:List UInt8} {p why:Int} (h:VB w g A cap l p why) (k:aN S w W) (hg:S g) (hr:Rd W A (al l)):VB W g A cap l p why:=⟨k.blk h.1 hg,hr⟩
theorem pX (w0:World) (g rb wb:Nat) (A:Option Addr) (cap:Nat) (l:List UInt8) (p0:Nat) (k:Nat) (J Jx:List ak→World→Prop) (W:World) (hG:GOK w0) (hr:Rd w0 A (al l)) (hcap:l.length≤cap) (hlen:l.length≤4194304)
  (hp0:p0≤l.length) (hgr:g≠rb) (hgw:g≠wb) (hg0:w0.heap.size≤g) (hW:aN (· < w0.heap.size) w0 W)
  (hJ:∀ s X Y,StV g A cap l X Y→J s X→J s Y)
  (hY:∀ pre x W1,J pre W1→pre++[x] <+: (cB l p0).1→YieldAt Fence.wide 1 Tryz.prog k (tO x) W1 fun e W' =>
   (e=.returned (.bool true)∧J (pre++[x]) W'∧KpV w0.heap.size g rb wb W1 W')∨(e=.returned (.bool false)∧Jx (pre++[x]) W'∧KpV w0.heap.size g rb wb W1 W'))
  (hV:VB W g A cap l p0 0) (hrb:Blk W rb 109 #[.pointer (some ⟨g,0,none⟩)]) (hwb:Blk W wb 165 (kA g)) (h0:J [] W) :
  CallsIn Fence.wide 2 Tryz.prog 134 #[.func (.yield k) #[] #[],.pointer (some ⟨rb,0,none⟩),.pointer (some ⟨wb,0,none⟩)] W fun e W'=>(∃ v,e=.returned v) ∧
   ((∃ xs,wB g A cap l p0 xs W'∧J xs W')∨(∃ pre,pre <+: (cB l p0).1∧Jx pre W')):=by
 have HY:=aW hY;have HJ:=aW hJ;have HP:=aW (pF W g A cap l p0 0 hV hp0 hcap hlen);clear hY hJ;obtain ⟨c1,f1,l1⟩:=hrb.rules;refine callsIn_of_wp Tryz.func134 rfl trivial ?_ rfl;simp only [Tryz.ntmps134,List.size_toArray,List.length_cons,List.length_nil,Nat.reduceAdd,Nat.reduceSub,Array.replicate_succ,Array.replicate_zero,List.push_toArray,List.append_toArray,List.nil_append,List.cons_append];gi_wp2;refine ⟨trivial,CallsIn.mono (callsIn_wide.2 HP.out) ?_⟩;rintro e w1 ⟨rfl,hst1⟩;have hrb1:=hrb.grown hst1.2 (by simpa using hgr.symm);have hwb1:=hwb.grown hst1.2 (by simpa using hgw.symm);have hW1:aN (· < w0.heap.size) w0 w1:=hW.trans ⟨hst1.2.size,fun i hi=>hst1.2.block i (Nat.lt_of_lt_of_le hi hW.1) (by simp;omega)⟩;have hJ1:=HJ.out _ _ _ (StV.of_step hst1) h0;have hV1:=hst1.1;clear hrb hwb hW h0 hV hst1 HP c1 f1 l1;gi_wp2
 gi_loopg [4] (l.length-p0+1) (fun gk _ wr => ∃ (p:Nat) (pre:List ak),aG l p≤l.length∧gk=l.length-p+1∧p≤l.length∧(cB l p0).1=pre++(cB l p).1∧(cB l p0).2=(cB l p).2∧J pre wr∧VB wr g A cap l (aG l p) 0 ∧
  Blk wr rb 109 #[.pointer (some ⟨g,0,none⟩)]∧Blk wr wb 165 (kA g)∧aN (· < w0.heap.size) w0 wr)
 case atStart=>exact ⟨p0,[],pN hp0,rfl,hp0,rfl,rfl,hJ1,hV1,hrb1,hwb1,hW1⟩
 case round =>
  obtain ⟨p,pre,hq,hgk,hp,hpre,hend,hJs,hV,hrb,hwb,hK⟩:=hrel;clear hV1 hrb1 hwb1 hW1 hJ1;obtain ⟨wo,rfl⟩:∃ wo:World,wo=wr:=⟨_,rfl⟩
  obtain ⟨c1,f1,l1⟩:=hrb.rules;obtain ⟨c2,f2,l2⟩:=hwb.rules;obtain ⟨c3,f3,l3⟩:=hV.1.rules;unfold cA at c3;unfold kA at c2;have HQ:=aW hq;have HGK:=aW hgk;have HPRE:=aW hpre;have HEND:=aW hend;clear hq hgk hpre hend;obtain ⟨q,hqq⟩:∃ q,aG l p=q:=⟨_,rfl⟩
  have HQQ:=aW hqq;rw [hqq] at hV c3;clear hqq;by_cases hlt:q<l.length
  ·obtain ⟨c,hc⟩:∃ c,l[q]? = some c:=⟨_,List.getElem?_eq_getElem hlt⟩
   have HC:=aW hc;clear hc;gi_wp2;refine wpIn_wide.2 ?_;go_quiet (fail);gi_wp2;refine wpIn_wide.2 ?_;go_step3;go_wp2;go_step3;obtain ⟨W2,hW2⟩:∃ W2,(wo.drewN nq).alloc (.cells #[.int .i64 0,.int .i64 0,.string ⟨#[]⟩,.int .i64 0] 86)=W2:=⟨_,rfl⟩
   have hb2:Below wo.heap.size wo W2:=by rw [← hW2];exact (ai (Below.refl _ wo) nq).alloc (Nat.le_refl _) _
   have ht2:Blk W2 wo.heap.size 86 #[.int .i64 0,.int .i64 0,.string ⟨#[]⟩,.int .i64 0]:=by rw [← hW2];exact Blk.new (wo.drewN nq) _ _
   rw [hW2];have HB2:=aW (And.intro hb2 ht2);clear hW2 c1 f1 l1 c2 f2 l2 c3 f3 l3 hb2 ht2;have HWR:=aW (And.intro hJs (And.intro hV (And.intro hrb (And.intro hwb hK))));clear hJs hV hrb hwb hK;obtain ⟨cw,fw,lw⟩:=(HWR.out.2.2.2.1.keep HB2.out.1).rules;unfold kA at cw;go_upto_block 2 with fail;go_cut [4] (fun s4 wx => ∃ (a bb:Int) (s:ByteArray) (d m y:Int),s4=.pointer (some ⟨wo.heap.size,0,none⟩)∧Hid ((a,bb,s,d,m,y)=mj (cX l q) q)∧Blk wx wo.heap.size 86 #[.int .i64 a,.int .i64 bb,.string s,.int .i64 d]∧VB wx g A cap l m y∧wo.grownBy wx (some g))
   case first =>
    clear cw fw lw;have hV0:=HWR.out.2.1;obtain ⟨b,o,rfl,hbb,hx0⟩:=hV0.byte HC.out;have hGw:GOK wo:=hG.keepOn HWR.out.2.2.2.2 (fun i h=>h);have hk3:=t9 c;have hvk:=mr HC.out;have hgl:=hV0.1.lt;have hl0:∀ w,Calls Tryz.prog 122 #[.int .u8 (c.toNat:Int)] w fun e w'=>e=.returned (.bool (aM c))∧w=w':=fun w=>ja c.toNat w
    have hl1:∀ w,Calls Tryz.prog 123 #[.int .u8 (c.toNat:Int)] w fun e w'=>e=.returned (.bool (aR c))∧w=w':=fun w=>jR c.toNat w
    have hl2:∀ w,Calls Tryz.prog 130 #[.int .u8 (c.toNat:Int)] w fun e w'=>e=.returned (.bool (decide (c.toNat=34)))∧w=w':=fun w=>uh c.toNat w
    have hl3:∀ w,Calls Tryz.prog 132 #[.int .u8 (c.toNat:Int)] w fun e w'=>e=.returned (.bool true)∧w=w':=fun w=>sg c.toNat w
    have HVK:=aW hvk;have HL:=aW (And.intro hl0 (And.intro hl1 (And.intro hl2 hl3)));have HX0:=aW hx0;have HVG:=aW (And.intro hV0 hGw);clear hvk hl0 hl1 hl2 hl3 hx0 hV0 hGw;go_wp2;go_loopg [23] 4 (fun gk i wr => ∃ k:Nat,k≤cP c∧gk=4-k∧i=.int .i64 k∧Below wo.heap.size wo wr∧Blk wr wo.heap.size 86 #[.int .i64 0,.int .i64 0,.string ⟨#[]⟩,.int .i64 0])
    case atStart=>exact ⟨0,Nat.zero_le _,rfl,rfl,HB2.out.1,HB2.out.2⟩
    case round =>
     obtain ⟨k,hk,hgk,rfl,hbx,htx⟩:=hrel;obtain ⟨c1,f1,l1⟩:=(HWR.out.2.2.1.keep hbx).rules;have hVx:=HVG.out.1.keep hbx;obtain ⟨c3,f3,l3⟩:=hVx.1.rules;unfold cA at c3;have hx:wr.cell? ⟨b,o+q,none⟩=some (.int .u8 c.toNat):=(hbx.cell (p:=⟨b,o+q,none⟩) hbb).trans HX0.out;have hb3:b<wr.heap.size:=Nat.lt_of_lt_of_le hbb hbx.size;have HGK2:=aW hgk;have HT:=aW (And.intro htx hVx);clear hgk htx hVx;rcases (by omega:k=0∨k=1∨k=2∨k=3) with rfl | rfl | rfl | rfl
     ·by_cases hkk:cP c=0
      ·obtain ⟨a,bb,s,d,m,y,hR,hN⟩:=jG (A:=some ⟨b,o,none⟩) (fk:=128) (fg l q) (fun W hG hV=>uk W g _ cap l q hV hlt hcap hlen);have hv:cX l q=fg l q:=by rw [HVK.out,hkk];rfl
       rw [← hv] at hR;have hlt2:=HL.out.1;rw [show aM c=true from xq hkk] at hlt2;have HR:=aW hR;have HN:=aW hN;have HLT:=aW hlt2;clear hv hR hN hlt2;go_wp2;go_quiet ((go_at_call 122;exact Calls.quiet_of_same ((HLT.out _).mono fun e w' h=>⟨h.1,h.2.symm⟩)));obtain ⟨W5,hW5⟩:∃ W5,(wr.alloc (.cells #[.func (.func 122) #[] #[],.func (.func 128) #[.pointer (some ⟨g,0,none⟩)] #[]] 164)).drewN nq=W5:=⟨_,rfl⟩
       have hb5:Below wo.heap.size wo W5:=by rw [← hW5];exact ai (hbx.alloc hbx.size _) _
       have ht5:Blk W5 wo.heap.size 86 #[.int .i64 0,.int .i64 0,.string ⟨#[]⟩,.int .i64 0]:=by rw [← hW5];exact (HT.out.1.alloc _).drewN _
       have hw5:Blk W5 wr.heap.size 164 #[.func (.func 122) #[] #[],.func (.func 128) #[.pointer (some ⟨g,0,none⟩)] #[]]:=by rw [← hW5];exact (Blk.new wr _ _).drewN _
       rw [hW5];have H5:=aW (And.intro hb5 ht5);have HC5:=aW (HN.out W5 (HVG.out.2.keep hb5) (HVG.out.1.keep hb5));clear hW5 hb5 ht5 c1 f1 l1 c3 f3 l3 hx hb3;obtain ⟨c6,f6,l6⟩:=hw5.rules;go_wp2_with (go_at_call 128;refine HC5.out.mono ?_;rintro e w6 ⟨rfl,hst⟩;have ht6:=H5.out.2.grown hst.2 (by simp;omega);obtain ⟨c7,f7,l7⟩:=ht6.rules);go_meet
       case rel =>
        have hstR:=(((aO.refl HVG.out.1).keep H5.out.1).trans hst).put4 ht6 (Nat.le_refl _) hgl (.int .i64 a) (.int .i64 bb) (.string s) (.int .i64 d);exact ⟨a,bb,s,d,m,y,rfl,HR,ht6.put4 _ _ _ _,hstR.1,hstR.2⟩
      ·have hlt2:=HL.out.1;rw [show aM c=false from ob hkk] at hlt2;have HLT:=aW hlt2;clear hlt2;go_wp2;go_quiet ((go_at_call 122;exact Calls.quiet_of_same ((HLT.out _).mono fun e w' h=>⟨h.1,h.2.symm⟩)));go_wp2;go_roundg (4-1)
       case measure=>rw [HGK2.out];omega
       case rel=>exact ⟨1,by omega,rfl,rfl,ai (hbx.alloc hbx.size _) _,(HT.out.1.alloc _).drewN _⟩
     ·by_cases hkk:cP c=1
      ·obtain ⟨a,bb,s,d,m,y,hR,hN⟩:=jG (A:=some ⟨b,o,none⟩) (fk:=129) (dE l q) (fun W hG hV=>qO W g _ cap l q hV hlt hcap hlen);have hv:cX l q=dE l q:=by rw [HVK.out,hkk];rfl
       rw [← hv] at hR;have hlt2:=HL.out.2.1;rw [show aR c=true from xr hkk] at hlt2;have HR:=aW hR;have HN:=aW hN;have HLT:=aW hlt2;clear hv hR hN hlt2;go_wp2;go_quiet ((go_at_call 123;exact Calls.quiet_of_same ((HLT.out _).mono fun e w' h=>⟨h.1,h.2.symm⟩)));obtain ⟨W5,hW5⟩:∃ W5,(wr.alloc (.cells #[.func (.func 123) #[] #[],.func (.func 129) #[.pointer (some ⟨g,0,none⟩)] #[]] 164)).drewN nq=W5:=⟨_,rfl⟩
       have hb5:Below wo.heap.size wo W5:=by rw [← hW5];exact ai (hbx.alloc hbx.size _) _
       have ht5:Blk W5 wo.heap.size 86 #[.int .i64 0,.int .i64 0,.string ⟨#[]⟩,.int .i64 0]:=by rw [← hW5];exact (HT.out.1.alloc _).drewN _
       have hw5:Blk W5 wr.heap.size 164 #[.func (.func 123) #[] #[],.func (.func 129) #[.pointer (some ⟨g,0,none⟩)] #[]]:=by rw [← hW5];exact (Blk.new wr _ _).drewN _
       rw [hW5];have H5:=aW (And.intro hb5 ht5);have HC5:=aW (HN.out W5 (HVG.out.2.keep hb5) (HVG.out.1.keep hb5));clear hW5 hb5 ht5 c1 f1 l1 c3 f3 l3 hx hb3;obtain ⟨c6,f6,l6⟩:=hw5.rules;go_wp2_with (go_at_call 129;refine HC5.out.mono ?_;rintro e w6 ⟨rfl,hst⟩;have ht6:=H5.out.2.grown hst.2 (by simp;omega);obtain ⟨c7,f7,l7⟩:=ht6.rules);go_meet
       case rel =>
        have hstR:=(((aO.refl HVG.out.1).keep H5.out.1).trans hst).put4 ht6 (Nat.le_refl _) hgl (.int .i64 a) (.int .i64 bb) (.string s) (.int .i64 d);exact ⟨a,bb,s,d,m,y,rfl,HR,ht6.put4 _ _ _ _,hstR.1,hstR.2⟩
      ·have hlt2:=HL.out.2.1;rw [show aR c=false from rC hkk (by omega)] at hlt2;have HLT:=aW hlt2;clear hlt2;go_wp2;go_quiet ((go_at_call 123;exact Calls.quiet_of_same ((HLT.out _).mono fun e w' h=>⟨h.1,h.2.symm⟩)));go_wp2;go_roundg (4-2)
       case measure=>rw [HGK2.out];omega
       case rel=>exact ⟨2,by omega,rfl,rfl,ai (hbx.alloc hbx.size _) _,(HT.out.1.alloc _).drewN _⟩
     ·by_cases hkk:cP c=2
      ·obtain ⟨a,bb,s,d,m,y,hR,hN⟩:=jG (A:=some ⟨b,o,none⟩) (fk:=131) (gH l q) (fun W hG hV=>uU W g _ cap l q hG hV hlt hcap hlen);have hv:cX l q=gH l q:=by rw [HVK.out,hkk];rfl
       rw [← hv] at hR;have hlt2:=HL.out.2.2.1;rw [show decide (c.toNat=34)=true from xt hkk] at hlt2;have HR:=aW hR;have HN:=aW hN;have HLT:=aW hlt2;clear hv hR hN hlt2;go_wp2;go_quiet ((go_at_call 130;exact Calls.quiet_of_same ((HLT.out _).mono fun e w' h=>⟨h.1,h.2.symm⟩)));obtain ⟨W5,hW5⟩:∃ W5,(wr.alloc (.cells #[.func (.func 130) #[] #[],.func (.func 131) #[.pointer (some ⟨g,0,none⟩)] #[]] 164)).drewN nq=W5:=⟨_,rfl⟩
       have hb5:Below wo.heap.size wo W5:=by rw [← hW5];exact ai (hbx.alloc hbx.size _) _
       have ht5:Blk W5 wo.heap.size 86 #[.int .i64 0,.int .i64 0,.string ⟨#[]⟩,.int .i64 0]:=by rw [← hW5];exact (HT.out.1.alloc _).drewN _
       have hw5:Blk W5 wr.heap.size 164 #[.func (.func 130) #[] #[],.func (.func 131) #[.pointer (some ⟨g,0,none⟩)] #[]]:=by rw [← hW5];exact (Blk.new wr _ _).drewN _
       rw [hW5];have H5:=aW (And.intro hb5 ht5);have HC5:=aW (HN.out W5 (HVG.out.2.keep hb5) (HVG.out.1.keep hb5));clear hW5 hb5 ht5 c1 f1 l1 c3 f3 l3 hx hb3;obtain ⟨c6,f6,l6⟩:=hw5.rules;go_wp2_with (go_at_call 131;refine HC5.out.mono ?_;rintro e w6 ⟨rfl,hst⟩;have ht6:=H5.out.2.grown hst.2 (by simp;omega);obtain ⟨c7,f7,l7⟩:=ht6.rules);go_meet
       case rel =>
        have hstR:=(((aO.refl HVG.out.1).keep H5.out.1).trans hst).put4 ht6 (Nat.le_refl _) hgl (.int .i64 a) (.int .i64 bb) (.string s) (.int .i64 d);exact ⟨a,bb,s,d,m,y,rfl,HR,ht6.put4 _ _ _ _,hstR.1,hstR.2⟩
      ·have hlt2:=HL.out.2.2.1;rw [show decide (c.toNat=34)=false from vJ hkk (by omega) (by omega)] at hlt2;have HLT:=aW hlt2;clear hlt2;go_wp2;go_quiet ((go_at_call 130;exact Calls.quiet_of_same ((HLT.out _).mono fun e w' h=>⟨h.1,h.2.symm⟩)));go_wp2;go_roundg (4-3)
       case measure=>rw [HGK2.out];omega
       case rel=>exact ⟨3,by omega,rfl,rfl,ai (hbx.alloc hbx.size _) _,(HT.out.1.alloc _).drewN _⟩
     ·by_cases hkk:cP c=3
      ·obtain ⟨a,bb,s,d,m,y,hR,hN⟩:=jG (A:=some ⟨b,o,none⟩) (fk:=133) (fD l q) (fun W hG hV=>tf W g _ cap l q hV hlt hcap hlen);have hv:cX l q=fD l q:=by rw [HVK.out,hkk];rfl
       rw [← hv] at hR;have hlt2:=HL.out.2.2.2;have HR:=aW hR;have HN:=aW hN;have HLT:=aW hlt2;clear hv hR hN hlt2;go_wp2;go_quiet ((go_at_call 132;exact Calls.quiet_of_same ((HLT.out _).mono fun e w' h=>⟨h.1,h.2.symm⟩)));obtain ⟨W5,hW5⟩:∃ W5,(wr.alloc (.cells #[.func (.func 132) #[] #[],.func (.func 133) #[.pointer (some ⟨g,0,none⟩)] #[]] 164)).drewN nq=W5:=⟨_,rfl⟩
       have hb5:Below wo.heap.size wo W5:=by rw [← hW5];exact ai (hbx.alloc hbx.size _) _
       have ht5:Blk W5 wo.heap.size 86 #[.int .i64 0,.int .i64 0,.string ⟨#[]⟩,.int .i64 0]:=by rw [← hW5];exact (HT.out.1.alloc _).drewN _
       have hw5:Blk W5 wr.heap.size 164 #[.func (.func 132) #[] #[],.func (.func 133) #[.pointer (some ⟨g,0,none⟩)] #[]]:=by rw [← hW5];exact (Blk.new wr _ _).drewN _
       rw [hW5];have H5:=aW (And.intro hb5 ht5);have HC5:=aW (HN.out W5 (HVG.out.2.keep hb5) (HVG.out.1.keep hb5));clear hW5 hb5 ht5 c1 f1 l1 c3 f3 l3 hx hb3;obtain ⟨c6,f6,l6⟩:=hw5.rules;go_wp2_with (go_at_call 133;refine HC5.out.mono ?_;rintro e w6 ⟨rfl,hst⟩;have ht6:=H5.out.2.grown hst.2 (by simp;omega);obtain ⟨c7,f7,l7⟩:=ht6.rules);go_meet
       case rel =>
        have hstR:=(((aO.refl HVG.out.1).keep H5.out.1).trans hst).put4 ht6 (Nat.le_refl _) hgl (.int .i64 a) (.int .i64 bb) (.string s) (.int .i64 d);exact ⟨a,bb,s,d,m,y,rfl,HR,ht6.put4 _ _ _ _,hstR.1,hstR.2⟩
      ·omega
   case rest =>
    obtain ⟨a,bb,s,d,m,y,rfl,HR,htb,hV3,hg3⟩:=hcut;obtain ⟨hJs,hV,hrb,hwb,hK⟩:=HWR.out;have hrb3:=hrb.grown hg3 (by simpa using hgr.symm);have hwb3:=hwb.grown hg3 (by simpa using hgw.symm);have hK3:aN (· < w0.heap.size) w0 wc:=hK.trans ⟨hg3.size,fun i hi=>hg3.block i (Nat.lt_of_lt_of_le hi hK.1) (by simp;omega)⟩;have hJ3:=HJ.out _ _ _ ⟨hg3,fun _=>⟨m,y,hV3⟩⟩ hJs;clear hJs hV hrb hwb hK HB2 cw fw lw HWR W2;obtain ⟨c1,f1,l1⟩:=hrb3.rules;obtain ⟨c3,f3,l3⟩:=hV3.1.rules;obtain ⟨c4,f4,l4⟩:=htb.rules;unfold cA at c3;cases hvt:cX l q with
    |inr e =>
     obtain ⟨pq,er⟩:=e;have her:=nC hlt hvt;rw [hvt] at HR;obtain ⟨rfl,rfl,rfl,rfl,rfl,rfl⟩:a=0∧bb=0∧s=⟨#[]⟩∧d=0∧m=pq∧y=er:=by simpa [mj] using HR.out
     have hE:=sZ hp (by rw [HQQ.out];exact hlt) (by rw [HQQ.out];exact hvt);have HEE:=aW hE;have HRR:=aW hvt;have her':(y != 0)=true:=by simpa using her
     clear hE hvt HR;go_wp2;rw [Exit.noGoto_ret];gi_wp2;refine bodyPost_ret (results_none rfl _ _ _) rfl ?_;refine ⟨⟨_,rfl⟩,.inl ⟨pre,⟨?_,m,y,hV3,?_⟩,hJ3⟩⟩
     ·rw [HPRE.out,HEE.out,List.append_nil]
     ·rw [HEND.out,HEE.out,if_neg her]
    |inl r =>
     obtain ⟨kd,t,n,m'⟩:=r;rw [hvt] at HR;obtain ⟨rfl,rfl,rfl,rfl,rfl,rfl⟩:a=kd∧bb=q∧s=⟨t.toArray⟩∧d=n∧m=m'∧y=0:=by simpa [mj] using HR.out
     have hok:=jJ hlt hvt;have hE:=ta hp (by rw [HQQ.out];exact hlt) (by rw [HQQ.out];exact hvt);have HEE:=aW hE;have HRR:=aW hvt;clear hE hvt HR;have hadm:pre++[(a,q,t,d)] <+: (cB l p0).1:=by rw [HPRE.out,HEE.out,HQQ.out];exact ⟨(cB l m').1,by simp⟩
     obtain ⟨fn,tmps,assign,body,hy,hR⟩:=HY.out pre _ wc hJ3 hadm;have HAD:=aW hadm;clear hadm;unfold tO sW at hy;simp only at hy;go_upto_region 10 with fail;refine (wpIn_wide (n:=2)).1 ?_;gi_wp2;refine hR.mono ?_;rintro e W4 (⟨rfl,hJ4,hk4⟩ | ⟨rfl,hJx4,hk4⟩)
     ·have hrb4:=hk4.blk hrb3 (.inr (.inr (.inl rfl)));have hwb4:=hk4.blk hwb3 (.inr (.inr (.inr rfl)));have hK4:aN (· < w0.heap.size) w0 W4:=hK3.trans ⟨hk4.1,fun i hi=>hk4.2 i (.inl hi)⟩;have hV4:=hV3.keepOn hk4 (.inr (.inl rfl)) (hr.keepOn hK4 (fun i h=>h));have HP4:=aW (pF W4 g A cap l m' 0 hV4 hok.2 hcap hlen);obtain ⟨c5,f5,l5⟩:=hrb4.rules;clear c1 f1 l1 c3 f3 l3 c4 f4 l4;gi_wp2;go_wp2;rw [Exit.noGoto_normal];gi_wp2;refine ⟨trivial,CallsIn.mono (callsIn_wide.2 HP4.out) ?_⟩;rintro e w5 ⟨rfl,hst5⟩;have hrb5:=hrb4.grown hst5.2 (by simpa using hgr.symm);have hwb5:=hwb4.grown hst5.2 (by simpa using hgw.symm);have hK5:aN (· < w0.heap.size) w0 w5:=hK4.trans ⟨hst5.2.size,fun i hi=>hst5.2.block i (Nat.lt_of_lt_of_le hi hK4.1) (by simp;omega)⟩;have hJ5:=HJ.out _ _ _ (StV.of_step hst5) hJ4;gi_wp2
      gi_roundg (l.length-m'+1)
      case measure=>rw [HGK.out];have:=ig l p;have:=HQQ.out;omega
      case rel=>exact ⟨m',pre++[(a,q,t,d)],pN hok.2,rfl,hok.2,by rw [HPRE.out,HEE.out,HQQ.out];simp,by rw [HEND.out,HEE.out],hJ5,hst5.1,hrb5,hwb5,hK5⟩
     ·gi_wp2;go_wp2;rw [Exit.noGoto_ret];gi_wp2;refine bodyPost_ret (results_none rfl _ _ _) rfl ?_;exact ⟨⟨_,rfl⟩,.inr ⟨_,HAD.out,hJx4⟩⟩
  ·have hE:=sY hp (by rw [HQQ.out];exact hlt);have hql:=HQ.out;rw [HQQ.out] at hql;obtain rfl:q=l.length:=by omega
   have HEE:=aW hE;have HQL:=aW hql;clear hE hlt hql;gi_wp2;refine wpIn_wide.2 ?_;go_quiet (fail);obtain ⟨fn,tmps,assign,body,hy,hR⟩:=HY.out pre ((6,l.length,[],0):ak) (wo.drewN nq) (HJ.out _ _ _ (StV.of_below (ai (Below.refl _ wo) nq)) hJs) (by rw [HPRE.out,HEE.out];exact List.prefix_refl _);unfold tO sW at hy;simp only at hy;gi_wp2;refine hR.mono ?_;rintro e W4 (⟨rfl,hJ4,hk4⟩ | ⟨rfl,hJx4,hk4⟩)
   ·have hK4:aN (· < w0.heap.size) w0 W4:=hK.trans ⟨hk4.1,fun i hi=>hk4.2 i (.inl hi)⟩;have hV4:=(hV.drewN nq).keepOn hk4 (.inr (.inl rfl)) (hr.keepOn hK4 (fun i h=>h));have HF:=aW (And.intro hV4 hJ4);clear hK4 hV4 hk4 hJ4;gi_wp2;go_end0;refine ⟨⟨_,rfl⟩,.inl ⟨_,⟨?_,_,0,HF.out.1,?_⟩,HF.out.2⟩⟩
    ·rw [HPRE.out,HEE.out]
    ·rw [HEND.out,HEE.out,if_pos rfl]
   ·gi_wp2;go_end0;exact ⟨⟨_,rfl⟩,.inr ⟨_,by rw [HPRE.out,HEE.out];exact List.prefix_refl _,hJx4⟩⟩
end
section
open Go.RowKit
theorem qD {s:List UInt8} {i:Nat} {a:UInt8} (ha:s[i]? = some a) (W:World):(Instr.index 9 (.string ⟨s.toArray⟩) (.int .i64 (i:Int))).run Tryz.prog W=.ok (.int .u8 a.toNat) W:=by
 obtain ⟨hi,e⟩:=List.getElem?_eq_some_iff.1 ha;have hsz:(ByteArray.mk s.toArray).size=s.length:=by simp [ByteArray.size]
 rw [run_index_string W 9 ⟨s.toArray⟩ .i64 (i:Int) Tryz.underlying9,dif_pos ⟨by omega,by rw [hsz];omega⟩];subst e;rfl
theorem sn:(Tryz.prog.info? 5).map (fun i=>(i.zero,i.size,i.bytes))=some (some (.int .u8 0),1,1):=by kernel_rfl
def iL (base:Nat) (row:Value) (n:Nat) (l:List UInt8) (w:World):Prop:=l.length=n∧w.ownsRow base 5 1 row n (al l)∧base≤w.heap.size
theorem iL.nil (w:World):iL w.heap.size (.slice none 0 0) 0 [] w:=⟨rfl,World.ownsRow_nil _ _ _ _,Nat.le_refl _⟩
theorem iL.bel {base n:Nat} {row:Value} {l:List UInt8} {w w':World} (h:iL base row n l w) (hb:Below w.heap.size w w'):iL base row n l w':=⟨h.1,om h.2.1 hb,Nat.le_trans h.2.2 hb.size⟩
def Gr (row:Value) (w:World) (row':Value) (w':World):Prop:=w.grownBy w' row.ownBlock∧(row'.ownBlock=row.ownBlock∨∃ k,row'.ownBlock=some k∧w.heap.size≤k)
theorem Gr.refl (row:Value) (w:World):Gr row w row w:=⟨World.grownBy.refl w _,.inl rfl⟩
theorem Gr.trans {a b c:Value} {w w1 w2:World} (h:Gr a w b w1) (k:Gr b w1 c w2):Gr a w c w2:=by
 obtain ⟨h1,h2⟩:=h;obtain ⟨k1,k2⟩:=k;refine ⟨⟨k1.os.trans h1.os,k1.tape.trans h1.tape,k1.output.trans h1.output,Nat.le_trans h1.size k1.size,fun i hi hne=>(k1.block i (Nat.lt_of_lt_of_le hi h1.size) ?_).trans (h1.block i hi hne)⟩,?_⟩
 ·rcases h2 with h2 | ⟨q,h2,h3⟩
  ·rw [h2];exact hne
  ·rw [h2];intro e;injection e with e;omega
 ·rcases k2 with k2 | ⟨q,k2,k3⟩
  ·rcases h2 with h2 | ⟨q',h2,h3⟩
   ·exact .inl (k2.trans h2)
   ·exact .inr ⟨q',k2.trans h2,h3⟩
  ·exact .inr ⟨q,k2,Nat.le_trans h1.size k3⟩
theorem Gr.bel {row:Value} {w w':World} (h:Below w.heap.size w w'):Gr row w row w':=⟨aA h _,.inl rfl⟩
theorem Gr.size {a b:Value} {w w':World} (h:Gr a w b w'):w.heap.size≤w'.heap.size:=h.1.size
theorem Gr.keepF {a b:Value} {w w':World} {F:Nat→Prop} (h:Gr a w b w') (hF:∀ k,F k→some k≠a.ownBlock):ah F w w':=⟨h.1.size,fun k hf hk=>h.1.block k hk (hF k hf)⟩
theorem Gr.blk {a b:Value} {w w':World} {g:Nat} {t:TypeId} {cs:Array Value} (h:Gr a w b w') (hb:Blk w g t cs) (hg:some g≠a.ownBlock):Blk w' g t cs:=(h.1.block g hb.lt hg).trans hb
theorem Gr.below {a b:Value} {w w':World} {base:Nat} (h:Gr a w b w') (hb:base≤w.heap.size) (ho:∀ k,a.ownBlock=some k→base≤k):Below base w w':=(Below.refl base w).grown h.1 hb ho
theorem iL.post {base n M:Nat} {row row2:Value} {l m:List UInt8} {w w6:World} {o:Obj} (h:iL base row n l w) (hown:w6.ownsRow base 5 1 row2 (n+M) (al l++al m)) (hM:m.length=M) (hgr:(w.alloc o).grownBy w6 row.ownBlock) (hob:row2.ownBlock=row.ownBlock∨row2.ownBlock=some (w.alloc o).heap.size):iL base row2 (n+M) (l++m) w6∧Gr row w row2 w6:=by
 have hg:Gr row w row2 w6:=(Gr.bel ((Below.refl _ w).alloc (Nat.le_refl _) o)).trans ⟨hgr,hob.imp id fun e=>⟨_,e,Nat.le_refl _⟩⟩;exact ⟨⟨by rw [List.length_append,h.1,hM],by rw [ip];exact hown,Nat.le_trans h.2.2 hg.size⟩,hg⟩
end
end Go.Proofs.YtgmnmnnoahdjnaaGreatDoor
