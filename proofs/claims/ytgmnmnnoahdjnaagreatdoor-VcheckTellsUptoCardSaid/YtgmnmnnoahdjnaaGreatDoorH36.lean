import Derived.Test.YtgmnmnnoahdjnaaGreatDoorH33
import Derived.Sort.CutIn
open Go.Value renaming int → Zi, slice → Zs, string → Zt, pointer → Zp
open Go.IntKind renaming i64 → Zq
set_option maxRecDepth 100000
set_option maxHeartbeats 16000000
set_option linter.unusedVariables false
set_option linter.unusedSimpArgs false
namespace Go.Proofs.YtgmnmnnoahdjnaaGreatDoor
section
open Go.RowKit Go.Shelf
attribute [local go_sem] ab ae af ac Oper.semAt_some
attribute [local go_sem] dF dE
section
variable {F:Fence} {n:Nat} {P:Program} {ops:Array Oper} {rest:List Oper} {op:Oper} {a:Act} {w:World} {Q:Exit->Act->World->Prop}
theorem dy (hgd:op.guard=none) (ty:TypeId) (x:Operand) (ho:op.op=.load ty x)
  (b o:Nat) (hx:a.eval x=Zp (some ⟨b,o,none⟩)) (cs:List Value) (d:TypeDesc) (hc:w.rangeAt b o cs) (hu:P.underlying ty=some d) (hd:d.isRow=true) (hi:(P.info? ty).map (·.size)=some cs.length)
  (h:wpListIn F n P ops Q rest (a.put op.dst (.agg cs.toArray)) w):wpListIn F n P ops Q (op::rest) a w :=
 wpListIn_plain hgd λ K hK=>by
  unfold Oper.wpIn;refine ⟨λ f hf=>by simp [Oper.about,ho] at hf,?_⟩;rw [Oper.semAt_eq _ _ _ (by rw [ho];simp)];unfold execOp;simp only [ho,hx,Instr.loadAt,Instr.sureAddr,Sem.run_bind,Sem.run_pure,Result.andThen_ok,run_loadVar_mid w b o ty cs d hc hu hd hi];exact hK _ _ h
theorem ii (hgd:op.guard=none) (ty:TypeId) (x y:Operand) (ho:op.op=.store ty x y)
  (old cells:Array Value) (hx:a.eval x=Zp (some ⟨w.heap.size,0,none⟩)) (hy:a.eval y=.agg cells)
  (hi:(P.info? ty).map (·.size)=some cells.size) (hs:old.size=cells.size) (h1:cells.all (·.oneCell')=true)
  (h:wpListIn F n P ops Q rest (a.put op.dst undef) (w.alloc (.cells cells ty))):wpListIn F n P ops Q (op::rest) a (w.alloc (.cells old ty)) :=
 wpListIn_plain hgd λ K hK=>by
  unfold Oper.wpIn;refine ⟨λ f hf=>by simp [Oper.about,ho] at hf,?_⟩;rw [Oper.semAt_eq _ _ _ (by rw [ho];simp)];unfold execOp;simp only [ho,hx,hy,Instr.storeAt,Instr.sureAddr,Sem.run_bind,Sem.run_pure,Result.andThen_ok,run_storeVar_new w ty old cells hi hs h1];exact hK _ _ h
end
theorem Blk.rangeD {w:World} {g:Nat} {t:TypeId} {cs:Array Value} (h:Blk w g t cs) (o m:Nat):w.rangeAt g o ((cs.toList.drop o).take m):=λ j v hv=>by
 have hj:j<m:=by
  have:=(List.getElem?_eq_some_iff.1 hv).1;rw [List.length_take] at this;omega
 rw [List.getElem?_take_of_lt hj,List.getElem?_drop] at hv;rw [h.cell];simpa using hv
theorem tM:∀ x:SJ,1<=dv x | .mk _ _ _ _ _ _=>by rw [dv];omega
theorem bD:∀ l:List SJ,l.length<=ap l
 | []=>Nat.le_refl _
 |x::r=>by
  have h1:=tM x;have h2:=bD r;rw [List.length_cons,ap];omega
theorem iO {l:List SJ} {i:Nat} {x:SJ} (h:l[i]? = some x):ap (l.take i)+dv x<=ap l:=by
 have h1:ap (l.take (i+1))=ap (l.take i)+dv x:=by
  rw [List.take_add_one,h,jr];show _+ap [x]=_;rw [ap,ap,Nat.add_zero]
 have h2:=kS (i+1) l;omega
section
variable {ob:Option Nat} {w W:World}
theorem FrO.lows (hf:FrO ob w W):aj (λ b=>b<w.heap.size/\¬ aM ob w b) w W:=⟨hf.size,λ b h hb=>hf.block b hb h.2⟩
theorem ER.fro {cs:List Value} {x:EJ} (h:ER w (λ b=>¬ aM ob w b) cs x) (hf:FrO ob w W):ER W (λ b=>¬ aM ob W b) cs x :=
 ((h.mono (F':=λ b=>b<w.heap.size/\¬ aM ob w b) λ b hb hn=>⟨hb,hn⟩).keep hf.lows).mono λ b _ hb=>hf.not_own hb.1 hb.2
theorem SRs.fro {css:List (List Value)} {l:List SJ} (h:SRs w (λ b=>¬ aM ob w b) css l) (hf:FrO ob w W):SRs W (λ b=>¬ aM ob W b) css l :=
 RR.imp h λ c x hc=>((hc.mono (F':=λ b=>b<w.heap.size/\¬ aM ob w b) λ b hb hn=>⟨hb,hn⟩).keep hf.lows).mono λ b _ hb=>hf.not_own hb.1 hb.2
theorem RdF.fro {A:Option Addr} {xs:List Value} (h:RdF w (λ b=>¬ aM ob w b) A xs) (hf:FrO ob w W):RdF W (λ b=>¬ aM ob W b) A xs :=
 ((h.mono (F':=λ b=>b<w.heap.size/\¬ aM ob w b) λ b hb hn=>⟨hb,hn⟩).keep hf.lows).mono λ b _ hb=>hf.not_own hb.1 hb.2
theorem RdF.blkN {F:Nat->Prop} {b:Nat} {t:TypeId} {xs:List Value} (h:Blk W b t xs.toArray) (hF:F b):RdF W F (some ⟨b,0,none⟩) xs :=
 λ _=>⟨b,0,rfl,h.lt,hF,λ i hi=>by rw [Nat.zero_add,h.cell];simp [hi]⟩
theorem FrO.new {b:Nat} (hf:FrO ob w W) (hO:∀ k,aM ob w k->k<w.heap.size) (hb:Below w.heap.size w W) (hob:∀ b,ob=some b->b<w.heap.size) (hn:w.heap.size<=b):¬ aM ob W b:=λ h=>by
 have:=hO _ (cz (λ b e=>hb.block b (hob b e)) h);omega
end
theorem nO {i0:TypeInfo} {z:Value} {a b:Nat} (h:(i0.zero,i0.size,i0.bytes)=(some z,a,b)):i0.zero=some z/\i0.size=a/\i0.bytes=b:=by
 injection h with h1 h;injection h with h2 h3;exact ⟨h1,h2,h3⟩
theorem fd:∃ i:TypeInfo,Tryz.prog.info? 9=some i/\i.zero=some (Zt ⟨#[]⟩)/\i.size=1/\i.bytes=16:=by
 have h:(Tryz.prog.info? 9).map (λ i=>(i.zero,i.size,i.bytes))=some (some (Zt ⟨#[]⟩),1,16):=by kernel_rfl
 obtain ⟨i,hi,h⟩:=Option.map_eq_some_iff.1 h;exact ⟨i,hi,nO h⟩
theorem cg (l:List (List UInt8)):∀ u ∈ ar l,u.oneCell'=true:=λ u hu=>by
 obtain ⟨s,_,rfl⟩:=List.mem_map.1 hu;rfl
/-- a text behind a full row -/
theorem tE (w:World) (ty:TypeId) (l:List (List UInt8)) (n:Nat) (A:Option Addr) (t:List UInt8) (b9:Nat) (hl:l.length=n) (hA:A=none->n=0) (hr:Rd w A (ar l)) (hA2:A=none∨∃ b o,A=some ⟨b,o,none⟩)
  (hc:w.cell? ⟨b9,0,none⟩=some (Zt ⟨t.toArray⟩)) (hb9:b9<w.heap.size) (hn:n<=100000000) :
  ∃ v' w',(Builtin.append_ #[40,40] ty #[Zs A n n,Zs (some ⟨b9,0,none⟩) 1 1]).run Tryz.prog w=.ok v' w'/\w'.ownsRow w.heap.size 9 1 v' (n+1) (ar (l++[t]))/\w.grownBy w' none:=by
 obtain ⟨i0,hi,hz,h1,h2⟩:=fd;have e:ar (l++[t])=ar l++[Zt ⟨t.toArray⟩]:=by simp [ar]
 rcases hA2 with rfl | ⟨b,o,rfl⟩
 ·have hn0:=hA rfl;subst hn0;have:l=[]:=List.eq_nil_of_length_eq_zero hl;subst this;obtain ⟨v',w',hrun,g1,g2,_⟩:=eM (P:=Tryz.prog) w w.heap.size 40 ty 9 i0 _ 1 16 Tryz.underlying40 hi hz h1 h2 rfl (by decide) (Zs none 0 0) 0 [] (World.ownsRow_nil _ _ _ _)
   (some ⟨b9,0,none⟩) 1 1 (λ e=>by cases e) [Zt ⟨t.toArray⟩] rfl (λ _=>⟨b9,0,rfl,hb9,λ i hi=>(by
    have h0:i=0:=by simpa using hi
    subst h0;exact hc)⟩) (by simp [Value.oneCell']) (by unfold maxLen;omega) (by omega) (Nat.le_refl _)
  exact ⟨v',w',hrun,by rw [e];exact g1,g2⟩
 ·obtain ⟨v',w',hrun,g1,g2⟩:=run_append_arg_grows (P:=Tryz.prog) w 40 ty 9 i0 _ 1 16 Tryz.underlying40 hi hz h1 h2 rfl (by decide) ⟨b,o,none⟩ n n (ar l) (by rw [av,hl];omega)
   (λ j u hu=>by
    have hne:ar l≠[]:=λ e=>by rw [e] at hu;simp at hu
    obtain ⟨b',o',e1,_,hx⟩:=hr hne;injection e1 with e1;injection e1 with e1 e2
    subst e1 e2;obtain ⟨hj,hu⟩:=List.getElem?_eq_some_iff.1 hu;rw [show (⟨b,o,none⟩:Addr).add j=⟨b,o+j,none⟩ by simp [Addr.add],hx j hj,hu])
   ⟨b9,0,none⟩ 1 1 [Zt ⟨t.toArray⟩] rfl (λ j u hu=>by
    have hj:=(List.getElem?_eq_some_iff.1 hu).1;obtain rfl:j=0:=by simpa using hj
    rw [show (⟨b9,0,none⟩:Addr).add 0=⟨b9,0,none⟩ by simp [Addr.add],hc];simpa using hu) (by omega) (by unfold maxLen;omega) (by omega)
  exact ⟨v',w',hrun,by rw [e];exact g1,g2⟩
theorem rK {F:Fence} {m:Nat} {w:World} {o:Oper} {a:Act} {K:Act->World->Prop} {Q:Exit->Act->World->Prop} (s x:Operand) (ho:o.op=.call { callee:=.builtin .append,args:=#[s,x],argTypes:=#[40,40] })
  (l:List (List UInt8)) (n:Nat) (A:Option Addr) (t:List UInt8) (b9:Nat) (hl:l.length=n) (hA:A=none->n=0) (hr:Rd w A (ar l)) (hA2:A=none∨∃ b o,A=some ⟨b,o,none⟩)
  (hc:w.cell? ⟨b9,0,none⟩=some (Zt ⟨t.toArray⟩)) (hb9:b9<w.heap.size) (hn:n<=100000000) (hs:a.eval s=Zs A n n) (hx:a.eval x=Zs (some ⟨b9,0,none⟩) 1 1)
  (h:∀ v' w',w'.ownsRow w.heap.size 9 1 v' (n+1) (ar (l++[t]))->w.grownBy w' none->K (a.put o.dst v') w'):o.wpIn F m Tryz.prog a w K Q:=by
 obtain ⟨v',w',hrun,h2,h3⟩:=tE w o.type l n A t b9 hl hA hr hA2 hc hb9 hn;unfold Oper.wpIn;refine ⟨λ f hf=>by simp [Oper.about,ho,resolve,Sem.run_pure,Target.leads] at hf,?_⟩;rw [Oper.semAt_eq _ _ _ (by rw [ho];simp)];unfold execOp;simp only [ho,resolve,invoke,builtin,Sem.run_bind,Sem.run_pure,Result.andThen_ok,List.map_toArray,List.map_cons,List.map_nil,hs,hx,hrun];exact h v' w' h2 h3
def ye (N:Act->World->Prop) (Pn:List PanicEntry->List Deferred->World->Prop):Exit->Act->World->Prop
 | .normal,a,w=>N a w
 | .panic ch,a,w=>Pn ch a.defers w
 | _,_,_=>False
def ClR {σ:Type} (ob:Option Nat) (Sx:σ->World->Prop) (o:Except Int σ) (w:World) (e:Ending) (w':World):Prop :=
 FrO ob w w'/\match o with | .ok st=>e=.returned (.tuple #[])/\Sx st w' | .error x=>e=.panicked [{ v:=.iface 90 (Zi Zq x),recovered:=false }]/\∃ st,Sx st w'
structure GoX (σ:Type) where
 g:rT σ
 ob:Option Nat
 Sx:σ->World->Prop
 ms:σ->Nat
 f1:FuncId
 f2:FuncId
 b1:Array Value
 b2:Array Value
def xm {σ:Type} (G:GoX σ) (f:FuncId) (lb:Array Value) (op:σ->List UInt8->List (List UInt8)->Except Int σ):Prop :=
 ∀ (m:Nat) (st:σ) (t:List UInt8) (bd:List (List UInt8)) (A:Option Addr) (n ca:Nat) (W:World),G.Sx st W->G.ms st<=16777216->bd.length=n->n<=4194304->RdF W (λ b=>¬ aM G.ob W b) A (ar bd) ->
  CallsIn d4 m Tryz.prog f (#[Zt ⟨t.toArray⟩,Zs A n ca]++lb) W (ClR G.ob G.Sx (op st t bd) W)
structure GoX.Ok {σ:Type} (G:GoX σ):Prop where
 st:StW G.ob G.Sx
 nms:∀ st t bd st',G.g.nm st t bd=.ok st'->G.ms st'<=G.ms st+1
 lms:∀ st t bd st',G.g.lp st t bd=.ok st'->G.ms st'<=G.ms st
 nm:xm G G.f1 G.b1 G.g.nm
 lp:xm G G.f2 G.b2 G.g.lp
 e1:∀ args w,(callFunc G.f1 args).run Tryz.prog w=.ok (.enter G.f1 args) w
 e2:∀ args w,(callFunc G.f2 args).run Tryz.prog w=.ok (.enter G.f2 args) w
section
variable {σ:Type} {G:GoX σ}
theorem re (hG:G.Ok) (bd:List (List UInt8)):∀ (l:List (List UInt8)) (st st':σ),gvN G.g bd st l=.ok st'->G.ms st'<=G.ms st+l.length
 | [],st,st',h=>by rw [gvN] at h;injection h with h;subst h;simp
 |t::r,st,st',h=>by
  rw [gvN] at h;cases hn:G.g.nm st t bd with
  | error e=>rw [hn,cE] at h;cases h
  |ok s1 =>
   rw [hn,bq] at h;have h1:=hG.nms _ _ _ _ hn;have h2:=re hG bd r _ _ h;rw [List.length_cons];omega
mutual
theorem yk (hG:G.Ok):∀ (x:SJ) (bd:List (List UInt8)) (st st':σ),gvS G.g bd x st=.ok st'->G.ms st'<=G.ms st+dv x
 | .mk k s a b body els,bd,st,st',h=>by
  rw [gvS] at h;cases h1:gvN G.g bd st (aF a++aF b) with
  | error e=>rw [h1,cE] at h;cases h
  |ok s1 =>
   rw [h1,bq] at h;have m1:=re hG bd _ _ _ h1;have la:=bj a;have lb:=bj b;rw [List.length_append] at m1;rw [dv];by_cases hk:k=3
   ·rw [if_pos hk] at h;cases h2:G.g.lp s1 s bd with
    | error e=>rw [h2,cE,cE] at h;cases h
    |ok s2 =>
     rw [h2,bq] at h;have m2:=hG.lms _ _ _ _ h2;cases h3:gvL G.g (bd++[s]) body s2 with
     | error e=>rw [h3,cE] at h;cases h
     |ok s3 =>
      rw [h3,bq] at h;have m3:=lm hG body _ _ _ h3;have m4:=lm hG els _ _ _ h;omega
   ·rw [if_neg hk] at h;cases h3:gvL G.g bd body s1 with
    | error e=>rw [h3,cE] at h;cases h
    |ok s3 =>
     rw [h3,bq] at h;have m3:=lm hG body _ _ _ h3;have m4:=lm hG els _ _ _ h;omega
theorem lm (hG:G.Ok):∀ (l:List SJ) (bd:List (List UInt8)) (st st':σ),gvL G.g bd l st=.ok st'->G.ms st'<=G.ms st+ap l
 | [],bd,st,st',h=>by rw [gvL] at h;injection h with h;subst h;simp
 |x::r,bd,st,st',h=>by
  rw [gvL] at h;cases h1:gvS G.g bd x st with
  | error e=>rw [h1,cE] at h;cases h
  |ok s1 =>
   rw [h1,bq] at h;have m1:=yk hG x _ _ _ h1;have m2:=lm hG r _ _ _ h;rw [ap];omega
end
end
def rR {σ:Type} (G:GoX σ) (M:Nat):Prop:=∀ (l:List SJ) (bd:List (List UInt8)) (css:List (List Value)) (AL:Option Addr) (n cL:Nat) (A:Option Addr) (nb cb:Nat) (st:σ) (w:World) (gb:Nat),ap l<M ->
 SRs w (λ b=>¬ aM G.ob w b) css l->l.length=n->n<=cL->RdF w (λ b=>¬ aM G.ob w b) AL css.flatten->bd.length=nb->nb+M<=4194304->nb<=cb->((A=none/\cb=0)∨∃ b o,A=some ⟨b,o,none⟩)->RdF w (λ b=>¬ aM G.ob w b) A (ar bd) ->
 Blk w gb 95 #[.func (.func G.f1) #[] G.b1,.func (.func G.f2) #[] G.b2]->¬ aM G.ob w gb->G.Sx st w->G.ms st+ap l<=16777216 ->
 CallsIn d4 3 Tryz.prog 61 #[Zp (some ⟨gb,0,none⟩),Zs AL n cL,Zs A nb cb] w (ClR G.ob G.Sx (gvL G.g bd l st) w)
theorem xv {σ:Type} {G:GoX σ} (hG:G.Ok) (M:Nat) (ih:rR G M):rR G (M+1):=by
 intro l bd css AL n cL A nb cb st w gb hM hS hln hnc hR hbl hbM hcb hA hRb hgb hgo hSx hms;have hmf:∀ (fn:Fn) (first cap:Array Value) (w:World),(Instr.makeFunc fn first cap).run Tryz.prog w=.ok (.func fn first cap) w:=λ _ _ _ _=>rfl
 have hO0:∀ k,aM G.ob w k->k<w.heap.size:=λ k hk=>hG.st.ownlt hSx hk
 have hob:∀ b,G.ob=some b->b<w.heap.size:=λ b e=>hG.st.lt hSx e
 have hn4:n<=4194304:=by
  have:=bD l;omega
 have hb2:Below w.heap.size w ((w.alloc (.cells #[Zp (some ⟨gb,0,none⟩)] 92)).alloc (.cells #[Zs A nb cb] 40)):=((Below.refl _ w).alloc (Nat.le_refl _) _).alloc (by simp) _;have hk3:Blk ((w.alloc (.cells #[Zp (some ⟨gb,0,none⟩)] 92)).alloc (.cells #[Zs A nb cb] 40)) w.heap.size 92 #[Zp (some ⟨gb,0,none⟩)]:=(Blk.new _ _ _).alloc _;have hk5:=Blk.new (w.alloc (.cells #[Zp (some ⟨gb,0,none⟩)] 92)) 40 #[Zs A nb cb];rw [World.size_alloc] at hk5;obtain ⟨W1,hW1⟩:∃ W1,((w.alloc (.cells #[Zp (some ⟨gb,0,none⟩)] 92)).alloc (.cells #[Zs A nb cb] 40))=W1:=⟨_,rfl⟩
 rw [hW1] at hb2 hk3 hk5;have hf1:FrO G.ob w W1:=FrO.of_below hob hb2;have hn3:¬ aM G.ob W1 w.heap.size:=λ h=>by have:=hO0 _ (cz (λ b e=>hb2.block b (hob b e)) h);omega
 have hn5:¬ aM G.ob W1 (w.heap.size+1):=λ h=>by have:=hO0 _ (cz (λ b e=>hb2.block b (hob b e)) h);omega
 have hng:¬ aM G.ob W1 gb:=hf1.not_own hgb.lt hgo;have hS1:G.Sx st W1:=hG.st.bel hSx hb2;have HW1:=aW hW1;have HF1:=aW hf1;have HB:=aW (And.intro hk3 (And.intro hk5 (show Blk W1 gb _ _ from hgb.keep hb2)));have HN:=aW (And.intro hn3 (And.intro hn5 hng));have HS:=aW (And.intro hS hR);have HL:=aW hln;have HBD:=aW (And.intro hbl (And.intro hRb (And.intro hA hcb)));have HOB:=aW hob;have HO0:=aW hO0;have HM:=aW (And.intro hM (And.intro hbM hms));have HG:=aW hG;have HI:=aW ih;have HS1:=aW hS1;have hnb4:nb<=4194304:=by omega
 clear hM hS hln hR hbl hbM hcb hA hRb hgb hgo hSx hms hb2 hk3 hk5 hW1 hf1 hn3 hn5 hng hS1 hO0 hob hG ih;have HPN:=aW (show ∀ (x:Int) (W:World) (Ds:List Nat) (tm:Array Value) (s9:σ),gvL G.g bd l st=.error x->FrO G.ob w W->MkS w.heap.size Ds W->G.Sx s9 W ->
   LeavesInM d4 3 Tryz.prog Tryz.f61 tm (ClR G.ob G.Sx (gvL G.g bd l st) w) (Ds.map mkD) (.panicking [{ v:=.iface 90 (Zi Zq x),recovered:=false }]) W by
  intro x W Ds tm s9 hx hf hm hs;refine fV _ (by simp) HG.out.st HOB.out ?_ Ds W hm hf hs;intro W' hf' hs';show ClR G.ob G.Sx (gvL G.g bd l st) w (.panicked _) W'
  exact ⟨hf',by rw [hx];exact ⟨rfl,s9,hs'⟩⟩)
 have HPR:=aW (show ∀ (W:World) (Ds:List Nat) (tm:Array Value) (s9:σ),gvL G.g bd l st=.ok s9->FrO G.ob w W->MkS w.heap.size Ds W->G.Sx s9 W ->
   LeavesInM d4 3 Tryz.prog Tryz.f61 tm (ClR G.ob G.Sx (gvL G.g bd l st) w) (Ds.map mkD) .returning W by
  intro W Ds tm s9 hx hf hm hs;refine fV _ (by simp) HG.out.st HOB.out ?_ Ds W hm hf hs;intro W' hf' hs';exact ⟨.tuple #[],by simp only [results,Tryz.results61];go_simp,hf',by rw [hx];exact ⟨rfl,hs'⟩⟩)
 refine callsIn_of_wp_marks Tryz.func61 rfl (aC (by kernel_rfl)) ?_ rfl;simp only [Tryz.ntmps61,List.size_toArray,List.length_cons,List.length_nil,Nat.reduceAdd,Nat.reduceSub,Array.replicate_succ,Array.replicate_zero,List.push_toArray,List.append_toArray,List.nil_append,List.cons_append];gi_wp2_with fail;rw [HW1.out];obtain ⟨c3,f3,l3⟩:=HB.out.1.rules;gi_wp2;clear c3 f3 l3;refine wpIn_loop_ghost_k (λ k' a' w' => ∃ (u8 u10 u11 u12 u17 u18 u19 u20 u21 u22 u23 u24 u25 u26 u27 u28 u29 u30 u31 u32 u34 u35 u36 u37 u38 u39 u40 u41 u42 u43 u44 u45 u46 u47 u48 u49 u50 u51 u52 u53 u54 u55 u56 u57 u58 u59 u60 u61 u62 u63 u64 u65 u66 u67 u68 u69 u70 u71 u72 u73 u74:Value) (ds:List Deferred),(∃ (i:Nat) (s1:σ),i<=n/\k'=n-i/\u17=Zi Zq (i:Int)/\Hid (gvL G.g bd (l.take i) st=.ok s1)/\Hid (G.Sx s1 w')/\Hid (FrO G.ob W1 w')/\Hid (∃ Ds,ds=Ds.map mkD/\MkS w.heap.size Ds w')) /\
  a'={ tmps:=#[Zp (some ⟨gb,0,none⟩),Zs AL n cL,Zs A nb cb,Zp (some ⟨w.heap.size,0,none⟩),undef,Zp (some ⟨w.heap.size+1,0,none⟩),.func (.func 61) #[Zp (some ⟨gb,0,none⟩)] #[],undef,u8,undef,u10,u11,u12,Zp (some ⟨gb,0,none⟩),.func (.func 61) #[Zp (some ⟨gb,0,none⟩)] #[],Zs AL n cL,Zi Zq (n:Int),u17,u18,u19,u20,u21,u22,u23,u24,u25,u26,u27,u28,u29,u30,u31,u32,undef,u34,u35,u36,u37,u38,u39,u40,u41,u42,u43,u44,u45,u46,u47,u48,u49,u50,u51,u52,u53,u54,u55,u56,u57,u58,u59,u60,u61,u62,u63,u64,u65,u66,u67,u68,u69,u70,u71,u72,u73,u74],defers:=ds }) n ?_ ?_
 ·(repeat apply Exists.intro)
  refine ⟨?_,rfl⟩;exact ⟨0,st,Nat.zero_le _,rfl,by go_num,aW (by rw [List.take_zero,gvL]),HS1,aW (.refl _ _),aW ⟨[],rfl,MkS.nil _ _⟩⟩
 intro gk _ wr hinv
 iterate 61 (obtain ⟨_,hinv⟩:=hinv)
 obtain ⟨ds,hrel,ha⟩:=hinv;subst ha
 try dsimp only
 intro _ _ _ _;obtain ⟨i,s1,hi,hgk,rfl,HV,HSx,HFr,HMk⟩:=hrel;have HGK:=aW hgk;clear hgk HS1;by_cases hlt:i<n;rotate_left
 ·obtain rfl:i=n:=by omega
  obtain ⟨Ds,rfl,hmk⟩:=HMk.out;have HE:=aW (HPR.out wr Ds);have HMK:=aW hmk;have hfin:gvL G.g bd l st=.ok s1:=by
   have h:=HV.out;rwa [List.take_of_length_le (by rw [HL.out];exact Nat.le_refl _)] at h
  have HFI:=aW hfin;clear hmk hfin HMk;gi_wp2;exact HE.out _ s1 HFI.out (HF1.out.trans HFr.out) HMK.out HSx.out
 obtain ⟨⟨k,s,a,b,body,els⟩,hx⟩:∃ x,l[i]? = some x:=⟨_,List.getElem?_eq_getElem (by rw [HL.out];exact hlt)⟩
 obtain ⟨bl,o,ka,kva,nva,sva,Ava,nka,cka,Bva,nya,cya,sa,Ca,nxa,cxa,kb,kvb,nvb,svb,Avb,nkb,ckb,Bvb,nyb,cyb,sb,Cb,nxb,cxb,BA,EA,cbo,cel,bss,ess,rfl,hbl,hblo,hEA,hEB,⟨hb1,hb2_,hb3⟩,⟨he1,he2,he3⟩,hSR,hz⟩:=dH HS.out.1 HS.out.2 hx;obtain ⟨nbo,hnbo⟩:∃ q,body.length=q:=⟨_,rfl⟩
 obtain ⟨nel,hnel⟩:∃ q,els.length=q:=⟨_,rfl⟩
 rw [hnbo] at hb2_ hz hSR;rw [hnel] at he2 hz hSR;have hFw:=HF1.out.trans HFr.out;have hblw:=hFw.block bl hbl hblo;have hsum:=iO hx;have hst:=sK G.g bd hx st;rw [HV.out,bq] at hst;have hlb:bl<wr.heap.size:=Nat.lt_of_lt_of_le hbl hFw.size;have HRG:=aW (show wr.rangeAt bl (o+i*20) [Zi Zq k,Zt ⟨s.toArray⟩,Zi Zq ka,Zi Zq kva,Zi Zq nva,Zt sva,Zs Ava nka cka,Zs Bva nya cya,Zt sa,Zs Ca nxa cxa,Zi Zq kb,Zi Zq kvb,Zi Zq nvb,Zt svb,Zs Avb nkb ckb,Zs Bvb nyb cyb,Zt sb,Zs Cb nxb cxb,Zs BA nbo cbo,Zs EA nel cel] from λ j v hv=>by
  rw [Nat.add_assoc];exact (World.cell?_of_block (w:=w) (a:=⟨bl,o+(i*20+j),none⟩) hblw).trans (hz j v hv))
 have HX:=aW (And.intro hEA (And.intro hEB (And.intro (And.intro hb1 (And.intro hb2_ hb3)) (And.intro he1 (And.intro he2 he3)))));have HNB:=aW (And.intro hnbo hnel);have HST:=aW hst;have HSU:=aW hsum;clear hz hSR hEA hEB hb1 hb2_ hb3 he1 he2 he3 hnbo hnel hblw hbl hblo hx hst hsum hFw;obtain ⟨Wa,hWa⟩:∃ Wa,wr.alloc (.cells #[Zi Zq k,Zt ⟨s.toArray⟩,Zi Zq ka,Zi Zq kva,Zi Zq nva,Zt sva,Zs Ava nka cka,Zs Bva nya cya,Zt sa,Zs Ca nxa cxa,Zi Zq kb,Zi Zq kvb,Zi Zq nvb,Zt svb,Zs Avb nkb ckb,Zs Bvb nyb cyb,Zt sb,Zs Cb nxb cxb,Zs BA nbo cbo,Zs EA nel cel] 48)=Wa:=⟨_,rfl⟩
 have hba:Below wr.heap.size wr Wa:=by rw [← hWa];exact (Below.refl _ _).alloc (Nat.le_refl _) _
 have HBA:=aW (show Blk Wa wr.heap.size 48 #[Zi Zq k,Zt ⟨s.toArray⟩,Zi Zq ka,Zi Zq kva,Zi Zq nva,Zt sva,Zs Ava nka cka,Zs Bva nya cya,Zt sa,Zs Ca nxa cxa,Zi Zq kb,Zi Zq kvb,Zi Zq nvb,Zt svb,Zs Avb nkb ckb,Zs Bvb nyb cyb,Zt sb,Zs Cb nxb cxb,Zs BA nbo cbo,Zs EA nel cel] by rw [← hWa];exact Blk.new _ _ _);have HWA:=aW hWa;have HBL:=aW hba;clear hWa hba
 gi_upto_region 4 with fail
 gi_step
 gi_step
 gi_step
 gi_step
 refine dy rfl 48 (.tmp 19) rfl bl (o+i*20) rfl [Zi Zq k,Zt ⟨s.toArray⟩,Zi Zq ka,Zi Zq kva,Zi Zq nva,Zt sva,Zs Ava nka cka,Zs Bva nya cya,Zt sa,Zs Ca nxa cxa,Zi Zq kb,Zi Zq kvb,Zi Zq nvb,Zt svb,Zs Avb nkb ckb,Zs Bvb nyb cyb,Zt sb,Zs Cb nxb cxb,Zs BA nbo cbo,Zs EA nel cel] _ HRG.out Tryz.underlying48 rfl (by kernel_rfl) ?_
 gi_step
 gi_step
 gi_step
 refine ii rfl 48 (.tmp 8) (.tmp 20) rfl _ _ rfl rfl (by kernel_rfl) (by kernel_rfl) (by first | kernel_rfl | simp [Value.oneCell']) ?_;rw [HWA.out];clear HWA HRG hlb;obtain ⟨gs,hgs⟩:∃ z,wr.heap.size=z:=⟨_,rfl⟩
 try rw [hgs]
 rw [hgs] at HBA;have HGS:=aW hgs;clear hgs;have HRA:=aW (show Wa.rangeAt gs 2 [Zi Zq ka,Zi Zq kva,Zi Zq nva,Zt sva,Zs Ava nka cka,Zs Bva nya cya,Zt sa,Zs Ca nxa cxa] from HBA.out.rangeD 2 8);have HRB:=aW (show Wa.rangeAt gs 10 [Zi Zq kb,Zi Zq kvb,Zi Zq nvb,Zt svb,Zs Avb nkb ckb,Zs Bvb nyb cyb,Zt sb,Zs Cb nxb cxb] from HBA.out.rangeD 10 8);obtain ⟨Wb,hWb⟩:∃ Wb,Wa.alloc (.cells #[Zi Zq ka,Zi Zq kva,Zi Zq nva,Zt sva,Zs Ava nka cka,Zs Bva nya cya,Zt sa,Zs Ca nxa cxa,Zi Zq kb,Zi Zq kvb,Zi Zq nvb,Zt svb,Zs Avb nkb ckb,Zs Bvb nyb cyb,Zt sb,Zs Cb nxb cxb] 45)=Wb:=⟨_,rfl⟩
 have hbb:Below Wa.heap.size Wa Wb:=by rw [← hWb];exact (Below.refl _ _).alloc (Nat.le_refl _) _
 have HBB:=aW (show Blk Wb Wa.heap.size 45 #[Zi Zq ka,Zi Zq kva,Zi Zq nva,Zt sva,Zs Ava nka cka,Zs Bva nya cya,Zt sa,Zs Ca nxa cxa,Zi Zq kb,Zi Zq kvb,Zi Zq nvb,Zt svb,Zs Avb nkb ckb,Zs Bvb nyb cyb,Zt sb,Zs Cb nxb cxb] by rw [← hWb];exact Blk.new _ _ _);have HBBL:=aW hbb;have HWB:=aW hWb;clear hWb hbb
 gi_upto_region 5 with fail
 gi_step
 gi_step
 gi_step
 gi_step
 refine dy rfl 45 (.tmp 21) rfl gs 2 rfl [Zi Zq ka,Zi Zq kva,Zi Zq nva,Zt sva,Zs Ava nka cka,Zs Bva nya cya,Zt sa,Zs Ca nxa cxa] _ HRA.out Tryz.underlying45 rfl (by kernel_rfl) ?_
 gi_step
 gi_step
 gi_step
 refine dy rfl 45 (.tmp 23) rfl gs 10 rfl [Zi Zq kb,Zi Zq kvb,Zi Zq nvb,Zt svb,Zs Avb nkb ckb,Zs Bvb nyb cyb,Zt sb,Zs Cb nxb cxb] _ HRB.out Tryz.underlying45 rfl (by kernel_rfl) ?_;gi_wp2;rw [HWB.out];clear HWB HRA HRB;have hT:FrO G.ob w wr:=HF1.out.trans HFr.out;have hOr:=hT.ownlt HO0.out;have hobr:∀ b,G.ob=some b->b<wr.heap.size:=λ b e=>Nat.lt_of_lt_of_le (HOB.out b e) hT.size
 have hTa:FrO G.ob w Wa:=hT.trans (FrO.of_below hobr HBL.out);have hOa:=hTa.ownlt HO0.out;have hoba:∀ b,G.ob=some b->b<Wa.heap.size:=λ b e=>Nat.lt_of_lt_of_le (HOB.out b e) hTa.size
 have hna:FrO G.ob Wa Wb:=FrO.of_below hoba HBBL.out;have hnE:¬ aM G.ob Wb Wa.heap.size:=hna.new hOa HBBL.out hoba (Nat.le_refl _);have hnS:¬ aM G.ob Wb gs:=hna.not_own HBA.out.lt (λ h=>by
  have:=hOr _ (cz (λ b e=>HBL.out.block b (hobr b e)) h);have:=HGS.out;omega)
 have hTb:FrO G.ob w Wb:=hTa.trans hna;have hFb:FrO G.ob W1 Wb:=(HFr.out.trans (FrO.of_below hobr HBL.out)).trans hna;have hXB:G.Sx s1 Wb:=HG.out.st.bel (HG.out.st.bel HSx.out HBL.out) HBBL.out;obtain ⟨ds0,hds0⟩:∃ z,ds=z:=⟨_,rfl⟩
 have hMB:∃ Ds,ds=Ds.map mkD/\MkS w.heap.size Ds Wb:=HMk.out.imp λ Ds h=>⟨h.1,(h.2.bel HBL.out).bel HBBL.out⟩
 have HKE:=aW (show ERs Wb (λ b=>¬ aM G.ob Wb b) [[Zi Zq ka,Zi Zq kva,Zi Zq nva,Zt sva,Zs Ava nka cka,Zs Bva nya cya,Zt sa,Zs Ca nxa cxa],[Zi Zq kb,Zi Zq kvb,Zi Zq nvb,Zt svb,Zs Avb nkb ckb,Zs Bvb nyb cyb,Zt sb,Zs Cb nxb cxb]] [a,b] from
  (RR.nil.snoc (HX.out.1.fro hTb)).snoc (HX.out.2.1.fro hTb))
 have HKR:=aW (show RdF Wb (λ b=>¬ aM G.ob Wb b) (some ⟨Wa.heap.size,0,none⟩) [[Zi Zq ka,Zi Zq kva,Zi Zq nva,Zt sva,Zs Ava nka cka,Zs Bva nya cya,Zt sa,Zs Ca nxa cxa],[Zi Zq kb,Zi Zq kvb,Zi Zq nvb,Zt svb,Zs Avb nkb ckb,Zs Bvb nyb cyb,Zt sb,Zs Cb nxb cxb]].flatten from RdF.blkN HBB.out hnE);have HNS:=aW (And.intro hnS (show Blk Wb gs _ _ from HBA.out.keep HBBL.out));have HTB:=aW hTb;have HFB:=aW hFb;have HXB:=aW hXB;have HMB:=aW hMB;have hobb:∀ b,G.ob=some b->b<Wb.heap.size:=λ b e=>Nat.lt_of_lt_of_le (HOB.out b e) hTb.size
 clear hT hOr hobr hTa hOa hoba hna hnE hnS hTb hFb hXB hMB hds0 HMk HBA HBB HFr HBL HBBL HSx hobb;refine wpIn_loop_ghost_k (λ k' a' w' => ∃ (u10 u11 u12 u18 u19 u20 u21 u22 u23 u24 u27 u28 u29 u30 u31 u32 u34 u35 u36 u37 u38 u39 u40 u41 u42 u43 u44 u45 u46 u47 u48 u49 u50 u51 u52 u53 u54 u55 u56 u57 u58 u59 u60 u61 u62 u63 u64 u65 u66 u67 u68 u69 u70 u71 u72 u73 u74:Value) (ds:List Deferred),(∃ (j:Nat) (s2:σ),j<=2/\k'=2-j/\u27=Zi Zq (j:Int)/\Hid (gvN G.g bd s1 (aK ([a,b].take j))=.ok s2)/\Hid (G.Sx s2 w')/\Hid (FrO G.ob Wb w')/\Hid (∃ Ds,ds=Ds.map mkD/\MkS w.heap.size Ds w')) /\
  a'={ tmps:=#[Zp (some ⟨gb,0,none⟩),Zs (some ⟨bl,o,none⟩) n cL,Zs A nb cb,Zp (some ⟨w.heap.size,0,none⟩),undef,Zp (some ⟨w.heap.size+1,0,none⟩),.func (.func 61) #[Zp (some ⟨gb,0,none⟩)] #[],undef,Zp (some ⟨gs,0,none⟩),undef,u10,u11,u12,Zp (some ⟨gb,0,none⟩),.func (.func 61) #[Zp (some ⟨gb,0,none⟩)] #[],Zs (some ⟨bl,o,none⟩) n cL,Zi Zq (n:Int),Zi Zq (i:Int),u18,u19,u20,u21,u22,u23,u24,Zs (some ⟨Wa.heap.size,0,none⟩) 2 2,Zi Zq 2,u27,u28,u29,u30,u31,u32,undef,u34,u35,u36,u37,u38,u39,u40,u41,u42,u43,u44,u45,u46,u47,u48,u49,u50,u51,u52,u53,u54,u55,u56,u57,u58,u59,u60,u61,u62,u63,u64,u65,u66,u67,u68,u69,u70,u71,u72,u73,u74],defers:=ds }) 2 ?_ ?_
 ·(repeat apply Exists.intro)
  refine ⟨?_,rfl⟩;exact ⟨0,s1,Nat.zero_le _,rfl,by go_num,aW (by rw [List.take_zero,aK,gvN]),HXB,aW (.refl _ _),HMB⟩
 clear HMB HXB ds0;intro gj _ wq hinv;obtain ⟨u10,hinv⟩:=hinv;obtain ⟨u11,hinv⟩:=hinv;obtain ⟨u12,hinv⟩:=hinv;obtain ⟨u18,hinv⟩:=hinv;obtain ⟨u19,hinv⟩:=hinv;obtain ⟨u20,hinv⟩:=hinv;obtain ⟨u21,hinv⟩:=hinv;obtain ⟨u22,hinv⟩:=hinv;obtain ⟨u23,hinv⟩:=hinv;obtain ⟨u24,hinv⟩:=hinv;obtain ⟨u27,hinv⟩:=hinv;obtain ⟨u28,hinv⟩:=hinv;obtain ⟨u29,hinv⟩:=hinv;obtain ⟨u30,hinv⟩:=hinv;obtain ⟨u31,hinv⟩:=hinv;obtain ⟨u32,hinv⟩:=hinv;obtain ⟨u34,hinv⟩:=hinv;obtain ⟨u35,hinv⟩:=hinv;obtain ⟨u36,hinv⟩:=hinv;obtain ⟨u37,hinv⟩:=hinv;obtain ⟨u38,hinv⟩:=hinv;obtain ⟨u39,hinv⟩:=hinv;obtain ⟨u40,hinv⟩:=hinv;obtain ⟨u41,hinv⟩:=hinv;obtain ⟨u42,hinv⟩:=hinv;obtain ⟨u43,hinv⟩:=hinv;obtain ⟨u44,hinv⟩:=hinv;obtain ⟨u45,hinv⟩:=hinv;obtain ⟨u46,hinv⟩:=hinv;obtain ⟨u47,hinv⟩:=hinv;obtain ⟨u48,hinv⟩:=hinv;obtain ⟨u49,hinv⟩:=hinv;obtain ⟨u50,hinv⟩:=hinv;obtain ⟨u51,hinv⟩:=hinv;obtain ⟨u52,hinv⟩:=hinv;obtain ⟨u53,hinv⟩:=hinv;obtain ⟨u54,hinv⟩:=hinv;obtain ⟨u55,hinv⟩:=hinv;obtain ⟨u56,hinv⟩:=hinv;obtain ⟨u57,hinv⟩:=hinv;obtain ⟨u58,hinv⟩:=hinv;obtain ⟨u59,hinv⟩:=hinv;obtain ⟨u60,hinv⟩:=hinv;obtain ⟨u61,hinv⟩:=hinv;obtain ⟨u62,hinv⟩:=hinv;obtain ⟨u63,hinv⟩:=hinv;obtain ⟨u64,hinv⟩:=hinv;obtain ⟨u65,hinv⟩:=hinv;obtain ⟨u66,hinv⟩:=hinv;obtain ⟨u67,hinv⟩:=hinv;obtain ⟨u68,hinv⟩:=hinv;obtain ⟨u69,hinv⟩:=hinv;obtain ⟨u70,hinv⟩:=hinv;obtain ⟨u71,hinv⟩:=hinv;obtain ⟨u72,hinv⟩:=hinv;obtain ⟨u73,hinv⟩:=hinv;obtain ⟨u74,hinv⟩:=hinv;obtain ⟨ds,hrel,ha⟩:=hinv;subst ha
 try dsimp only
 intro _ _ _ _;obtain ⟨j,s2,hj,hgj,rfl,HV2,HSx,HFq,HMk⟩:=hrel;have HGJ:=aW hgj;clear hgj;by_cases hlj:j<2
 ·obtain ⟨x,hx⟩:∃ x,[a,b][j]? = some x:=⟨_,List.getElem?_eq_getElem hlj⟩
  obtain ⟨be,oe,k',k1',n1',s1',A1',na1',ca1',B1',nb1',cb1',s',A',n',ca',hae,hbe,hvx,hze⟩:=kv HKE.out HKR.out hx;injection hae with hae
  injection hae with hae1 hae2
  subst hae1 hae2;obtain ⟨q0,q1,q2,q3,q4,q5,q6,q7⟩:=hze _ HFq.out.keepF;simp only [Nat.zero_add] at q0 q1 q2 q3 q4 q5 q6 q7;obtain ⟨nq,hnq⟩:∃ z,wq.heap.size=z:=⟨_,rfl⟩
  obtain ⟨W7,hW7⟩:∃ W7,wq.alloc (.cells #[Zi Zq k',Zi Zq k1',Zi Zq n1',Zt s1',Zs A1' na1' ca1',Zs B1' nb1' cb1',Zt s',Zs A' n' ca'] 45)=W7:=⟨_,rfl⟩
  have hb7:Below wq.heap.size wq W7:=by rw [← hW7];exact (Below.refl _ _).alloc (Nat.le_refl _) _
  have h7k:Blk W7 nq 45 #[Zi Zq k',Zi Zq k1',Zi Zq n1',Zt s1',Zs A1' na1' ca1',Zs B1' nb1' cb1',Zt s',Zs A' n' ca']:=by rw [← hW7,← hnq];exact Blk.new _ _ _
  have h7s:W7.heap.size=nq+1:=by rw [← hW7,← hnq];simp
  obtain ⟨W8,hW8⟩:∃ W8,W7.alloc (.cells #[Zi Zq k',Zi Zq k1',Zi Zq n1',Zt s1',Zs A1' na1' ca1',Zs B1' nb1' cb1',Zt s',Zs A' n' ca'] 45)=W8:=⟨_,rfl⟩
  have hb8:Below wq.heap.size wq W8:=by rw [← hW8];exact hb7.alloc hb7.size _
  have h8k:Blk W8 (nq+1) 45 #[Zi Zq k',Zi Zq k1',Zi Zq n1',Zt s1',Zs A1' na1' ca1',Zs B1' nb1' cb1',Zt s',Zs A' n' ca']:=by rw [← hW8,← h7s];exact Blk.new _ _ _
  have hTq:FrO G.ob w wq:=HTB.out.trans HFq.out;have hobq:∀ b,G.ob=some b->b<wq.heap.size:=λ b e=>Nat.lt_of_lt_of_le (HOB.out b e) hTq.size
  have hq8:FrO G.ob wq W8:=FrO.of_below hobq hb8;have HT8:=aW (hTq.trans hq8);have HQ8:=aW (HFq.out.trans hq8);have HS8:=aW (HG.out.st.bel HSx.out hb8);have hvb:=hvx.fro (HFq.out.trans hq8);have H8K:=aW (And.intro h8k hvb);have H8S:=aW h7s;have HW7:=aW hW7;have HW8:=aW hW8;have HNQ:=aW hnq;have HM8:=aW (show ∃ Ds,ds=Ds.map mkD/\MkS w.heap.size Ds W8/\∀ D ∈ Ds,D<W8.heap.size from HMk.out.imp λ Ds h=>⟨h.1,h.2.bel hb8,λ D hD=>(h.2.bel hb8).lt hD⟩);obtain ⟨c7,f7,l7⟩:=h7k.rules;have HXJ:=aW hx;clear hW7 hb7 h7k h7s hW8 hb8 h8k hTq hobq hq8 hvb hnq hze hx HMk HSx hvx
  gi_upto_region 8 with fail
  rw [HNQ.out,HW7.out];clear q0 q1 q2 q3 q4 q5 q6 q7;gi_wp2_with fail;refine ⟨aC (by kernel_rfl),(uo _ _ _ _ _ _ _ _ _ _).mono ?_⟩;rintro e w8 ⟨rfl,hw8⟩;rw [HW8.out] at hw8;subst hw8;rw [H8S.out];clear c7 f7 l7;gi_wp2;obtain ⟨Ds,rfl,hMD,hDl⟩:=HM8.out;have hO8:=HT8.out.ownlt HO0.out;have hob8:∀ b,G.ob=some b->b<W8.heap.size:=λ b e=>Nat.lt_of_lt_of_le (HOB.out b e) HT8.out.size
  have hxs:bG x<=4194304/\(aF x).length+ap (l.take i)+(aK ([a,b].take j)).length<=ap l:=by
   have h1:=HSU.out;rw [dv] at h1;have ha:=bj a;have hb:=bj b;have hM1:=HM.out.1;have hM2:=HM.out.2.1;rcases (show j=0∨j=1 by omega) with rfl | rfl
   ·obtain rfl:a=x:=by simpa using HXJ.out
    simp [aK];omega
   ·obtain rfl:b=x:=by simpa using HXJ.out
    simp [aK];omega
  have hms2:G.ms s2+(aF x).length<=16777216:=by
   have h1:=lm HG.out (l.take i) _ _ _ HV.out;have h2:=re HG.out _ _ _ _ HV2.out;have:=hxs.2;have:=HM.out.2.2;have:=HM.out.1;omega
  have HXS:=aW hxs;have HMS:=aW hms2;have HMD:=aW (And.intro hMD hDl);clear hMD hDl hxs hms2;refine t7 (w0:=W8) (n:=3) rfl (by omega) (gf:=149) (lb:=#[Zp (some ⟨nq+1,0,none⟩)]) rfl (aC (by kernel_rfl)) (enters_of Tryz.func149 (by kernel_rfl) rfl)
   (xu G.ob W8 x hob8 hO8 HXS.out.1 _ _ H8K.out.2 H8K.out.1) (Below.refl _ _) (λ _=>rfl)
   (λ A B k o hs hk ho _=>(hs.block k (Array.getElem?_eq_some_iff.1 ho).1).trans ho)
   (λ h k=>h.trans k) (λ W k o o' hk ho hL=>KpR.putObj o' hk ho hL hob8)
   (λ _ _ _ _ _ _ _ _ h=>h) (λ _ _ _ _ _ _ _ _ h=>h)
   (λ pre W => ∃ s3,gvN G.g bd s2 pre=.ok s3/\G.Sx s3 W/\KpR G.ob W8.heap.size W8 W) (λ _ _ _=>False)
   (λ ch W => ∃ e s3,ch=[{ v:=.iface 90 (Zi Zq e),recovered:=false }]/\gvN G.g bd s2 (aF x)=.error e/\G.Sx s3 W/\KpR G.ob W8.heap.size W8 W) sD
   (λ s A B hs ⟨s3,h1,h2,h3⟩=>⟨s3,h1,HG.out.st.bel h2 hs,h3.trans (KpR.bel (λ b e=>Nat.lt_of_lt_of_le (hob8 b e) h3.size) hs)⟩) (λ _ _ _ _ _ h=>h)
   (λ s W k o o' hk ho hL ⟨s3,h1,h2,h3⟩=>⟨s3,h1,HG.out.st.keep _ _ _ (fE.putObj o' ho (by obtain ⟨L,rfl⟩:=hL;rfl)) h2,h3.trans (KpR.putObj o' hk ho hL hob8)⟩) (λ _ _ _ _ _ _ _ _ _ h=>h)
   (λ o o'=>⟨s2,rfl,HG.out.st.bel HS8.out (((Below.refl _ W8).alloc (Nat.le_refl _) o).alloc (by simp) o'),KpR.bel hob8 (((Below.refl _ W8).alloc (Nat.le_refl _) o).alloc (by simp) o')⟩)
   (λ t=>{ tmps:=#[Zp (some ⟨gb,0,none⟩),Zs (some ⟨bl,o,none⟩) n cL,Zs A nb cb,Zp (some ⟨w.heap.size,0,none⟩),undef,Zp (some ⟨w.heap.size+1,0,none⟩),.func (.func 61) #[Zp (some ⟨gb,0,none⟩)] #[],undef,Zp (some ⟨gs,0,none⟩),undef,Zp (some ⟨nq,0,none⟩),Zt ⟨t.toArray⟩,u12,Zp (some ⟨gb,0,none⟩),.func (.func 61) #[Zp (some ⟨gb,0,none⟩)] #[],Zs (some ⟨bl,o,none⟩) n cL,Zi Zq (n:Int),Zi Zq (i:Int),u18,u19,u20,u21,u22,u23,u24,Zs (some ⟨Wa.heap.size,0,none⟩) 2 2,Zi Zq 2,Zi Zq (j:Int),.bool true,Zp (some ⟨Wa.heap.size,j*8,none⟩),.agg #[Zi Zq k',Zi Zq k1',Zi Zq n1',Zt s1',Zs A1' na1' ca1',Zs B1' nb1' cb1',Zt s',Zs A' n' ca'],.agg #[Zi Zq k',Zi Zq k1',Zi Zq n1',Zt s1',Zs A1' na1' ca1',Zs B1' nb1' cb1',Zt s',Zs A' n' ca'],.func (.func 149) #[] #[Zp (some ⟨nq+1,0,none⟩)],Zt ⟨t.toArray⟩,u34,u35,u36,u37,u38,u39,u40,u41,u42,u43,u44,u45,u46,u47,u48,u49,u50,u51,u52,u53,u54,u55,u56,u57,u58,u59,u60,u61,u62,u63,u64,u65,u66,u67,u68,u69,u70,u71,u72,u73,u74],defers:=[] }) ?asg ?bdy ?don ?pan ?stp
  case asg =>
   intro r t W K hK;simp only [uA];gi_wp2;exact hK
  case stp =>
   rintro D c pre W _ _ h _;exact h.elim
  case bdy =>
   rintro r pre t W ⟨s3,h3,hSx3,hK3⟩ hadm;have hF:FrO G.ob w W:=HT8.out.trans hK3.fro;have hF1:FrO G.ob W1 W:=(HFB.out.trans HQ8.out).trans hK3.fro;have hb3:=hF1.blk HB.out.1 HN.out.1;have hb5:=hF1.blk HB.out.2.1 HN.out.2.1;have hbg:=hF1.blk HB.out.2.2 HN.out.2.2;have hn3:=hF1.not_own HB.out.1.lt HN.out.1;have hn5:=hF1.not_own HB.out.2.1.lt HN.out.2.1;have hng:=hF1.not_own HB.out.2.2.lt HN.out.2.2;have hbd:Below W.heap.size W W.drew:=(Below.refl _ W).drew;have hobW:∀ b,G.ob=some b->b<W.heap.size:=λ b e=>Nat.lt_of_lt_of_le (HOB.out b e) hF.size
   have hpl:pre.length<(aF x).length:=by have:=hadm.length_le;simp at this;omega
   have hcl:=HG.out.nm 0 s3 t bd A nb cb W.drew (HG.out.st.bel hSx3 hbd) (by have:=re HG.out _ _ _ _ h3;have:=HMS.out;omega) HBD.out.1 hnb4 (HBD.out.2.1.fro (hF.trans (FrO.of_below hobW hbd)));have HCL:=aW hcl;have HE:=aW (show ∀ e w',ClR G.ob G.Sx (G.g.nm s3 t bd) W.drew e w'->(∃ s4,e=.returned (.tuple #[])/\(Blk w' w.heap.size 92 #[Zp (some ⟨gb,0,none⟩)]/\Blk w' (w.heap.size+1) 40 #[Zs A nb cb]/\Blk w' gb 95 #[.func (.func G.f1) #[] G.b1,.func (.func G.f2) #[] G.b2])/\KeepsFrom W8.heap.size W w'/\KpR G.ob W8.heap.size W w'/\∃ s5,gvN G.g bd s2 (pre++[t])=.ok s5/\G.Sx s5 w'/\KpR G.ob W8.heap.size W8 w') ∨
     (∃ ch,e=.panicked ch/\KeepsFrom W8.heap.size W w'/\∃ e s5,ch=[{ v:=.iface 90 (Zi Zq e),recovered:=false }]/\gvN G.g bd s2 (aF x)=.error e/\G.Sx s5 w'/\KpR G.ob W8.heap.size W8 w') by
    rintro e w' ⟨hf,hc⟩;have hf2:FrO G.ob W w':=(FrO.of_below hobW hbd).trans hf;have hgv:gvN G.g bd s2 (pre++[t])=G.g.nm s3 t bd:=by
     rw [iA,h3,bq,gvN];cases G.g.nm s3 t bd<;>rfl
    cases hr:G.g.nm s3 t bd with
    |ok s4 =>
     rw [hr] at hc;exact .inl ⟨s4,hc.1,⟨hf2.blk hb3 hn3,hf2.blk hb5 hn5,hf2.blk hbg hng⟩,HG.out.st.keepsFrom hSx3 hf2 _,.of_fro hf2,s4,hgv.trans hr,hc.2,hK3.trans (.of_fro hf2)⟩
    |error y =>
     rw [hr] at hc;obtain ⟨rfl,s9,hs9⟩:=hc;exact .inr ⟨_,rfl,HG.out.st.keepsFrom hSx3 hf2 _,y,s9,rfl,nL G.g bd (hgv.trans hr) hadm,hs9,hK3.trans (.of_fro hf2)⟩)
   have he1:=HG.out.e1;have HBK:=aW (And.intro hb3 (And.intro hb5 hbg));clear hF hF1 hb3 hb5 hbg hn3 hn5 hng hobW hpl hcl h3 hSx3 hK3 hadm
   gi_upto_region 10 with fail
   refine eO (S:=λ W'=>Blk W' w.heap.size 92 #[Zp (some ⟨gb,0,none⟩)]/\Blk W' (w.heap.size+1) 40 #[Zs A nb cb]/\Blk W' gb 95 #[.func (.func G.f1) #[] G.b1,.func (.func G.f2) #[] G.b2]) (by kernel_rfl) (by exact HBK.out) (λ hHeld=>?_);refine az 0 (Zp (some ⟨gb,0,none⟩)) (oi:=⟨some 34,_,_,_,_,_⟩) rfl (by kernel_rfl) (by kernel_rfl) (by kernel_rfl) (by kernel_rfl) (λ _ _ _ h=>h) ⟨Or.inl ⟨by kernel_rfl,?_⟩,λ _=>rfl⟩ (by assumption) ?_
   ·intro W' hSw;obtain ⟨⟨c3,f3,l3⟩,⟨c5,f5,l5⟩,c9,f9,l9⟩:=And.intro hSw.1.rules (And.intro hSw.2.1.rules hSw.2.2.rules);go_simp
   try simp only [pU]
   refine az 1 (Zp (some ⟨gb,0,none⟩)) (oi:=⟨some 35,_,_,_,_,_⟩) rfl (by kernel_rfl) (by kernel_rfl) (by kernel_rfl) (by kernel_rfl) (λ _ _ _ h=>h) ⟨Or.inl ⟨by kernel_rfl,?_⟩,λ _=>rfl⟩ (by assumption) ?_
   ·intro W' hSw;obtain ⟨⟨c3,f3,l3⟩,⟨c5,f5,l5⟩,c9,f9,l9⟩:=And.intro hSw.1.rules (And.intro hSw.2.1.rules hSw.2.2.rules);go_simp
   try simp only [pU]
   refine az 2 (Zp (some ⟨gb,0,none⟩)) (oi:=⟨some 36,_,_,_,_,_⟩) rfl (by kernel_rfl) (by kernel_rfl) (by kernel_rfl) (by kernel_rfl) (λ _ _ _ h=>h) ⟨Or.inl ⟨by kernel_rfl,?_⟩,λ _=>rfl⟩ (by assumption) ?_
   ·intro W' hSw;obtain ⟨⟨c3,f3,l3⟩,⟨c5,f5,l5⟩,c9,f9,l9⟩:=And.intro hSw.1.rules (And.intro hSw.2.1.rules hSw.2.2.rules);go_simp
   try simp only [pU]
   refine az 3 (.func (.func G.f1) #[] G.b1) (oi:=⟨some 37,_,_,_,_,_⟩) rfl (by kernel_rfl) (by kernel_rfl) (by kernel_rfl) (by kernel_rfl) (λ _ _ _ h=>h) ⟨Or.inl ⟨by kernel_rfl,?_⟩,λ _=>rfl⟩ (by assumption) ?_
   ·intro W' hSw;obtain ⟨⟨c3,f3,l3⟩,⟨c5,f5,l5⟩,c9,f9,l9⟩:=And.intro hSw.1.rules (And.intro hSw.2.1.rules hSw.2.2.rules);go_simp
   try simp only [pU]
   refine az 4 (Zt ⟨t.toArray⟩) (oi:=⟨some 38,_,_,_,_,_⟩) rfl (by kernel_rfl) (by kernel_rfl) (by kernel_rfl) (by kernel_rfl) (λ _ _ _ h=>h) ⟨Or.inl ⟨by kernel_rfl,?_⟩,λ _=>rfl⟩ (by assumption) ?_
   ·intro W' hSw;obtain ⟨⟨c3,f3,l3⟩,⟨c5,f5,l5⟩,c9,f9,l9⟩:=And.intro hSw.1.rules (And.intro hSw.2.1.rules hSw.2.2.rules);go_simp
   try simp only [pU]
   refine az 5 (Zs A nb cb) (oi:=⟨some 39,_,_,_,_,_⟩) rfl (by kernel_rfl) (by kernel_rfl) (by kernel_rfl) (by kernel_rfl) (λ _ _ _ h=>h) ⟨Or.inl ⟨by kernel_rfl,?_⟩,λ _=>rfl⟩ (by assumption) ?_
   ·intro W' hSw;obtain ⟨⟨c3,f3,l3⟩,⟨c5,f5,l5⟩,c9,f9,l9⟩:=And.intro hSw.1.rules (And.intro hSw.2.1.rules hSw.2.2.rules);go_simp
   try simp only [pU]
   refine ei (rs:=[6]) (by kernel_rfl) (by simp) ?_;refine dj.cons (o:=⟨some 40,_,_,_,_,_⟩) rfl (λ K hK=>?_) dj.nil;go_simp;refine ⟨HCL.out.1,CallsIn.mono (CallsIn.inRound r HCL.out) ?_⟩;intro e w' hc;rcases HE.out e w' hc with ⟨s4,rfl,hS',hk1,hk2,hI⟩ | ⟨ch,rfl,hk1,hI⟩
   ·refine hK.out _ _ hS' (λ hHeld=>?_);exact gm (by kernel_rfl) ⟨hk1,hk2,hI⟩ _
   ·exact ⟨rfl,hk1,hI⟩
  case don =>
   rintro D xs W hD rfl ⟨s3,h3,hSx3,hK3⟩ hDD;have hmk:MkS w.heap.size (D::Ds) W:=(HMD.out.1.keep HG.out.st HS8.out hK3.fro).push (Nat.le_trans HT8.out.size hD) (λ h=>by have:=HMD.out.2 D h;omega) hDD;have hgv:gvN G.g bd s1 (aK ([a,b].take (j+1)))=.ok s3:=by
    rw [(iF HXJ.out).1,iA,HV2.out,bq];exact h3
   have HF:=aW (And.intro hgv (And.intro hSx3 (And.intro (HQ8.out.trans hK3.fro) hmk)));clear hmk hgv h3 hSx3 hK3 hDD hD;gi_wp2
   gi_roundg (2-(j+1))
   case measure=>rw [HGJ.out];omega
   case rel=>exact ⟨j+1,s3,hlj,rfl,by go_num,aW HF.out.1,aW HF.out.2.1,aW HF.out.2.2.1,aW ⟨D::Ds,rfl,HF.out.2.2.2⟩⟩
  case pan =>
   rintro D ch W hD ⟨e,s3,rfl,h3,hSx3,hK3⟩ hDD;have hmk:MkS w.heap.size (D::Ds) W:=(HMD.out.1.keep HG.out.st HS8.out hK3.fro).push (Nat.le_trans HT8.out.size hD) (λ h=>by have:=HMD.out.2 D h;omega) hDD;refine HPN.out e W (D::Ds) _ s3 ?_ (HT8.out.trans hK3.fro) hmk hSx3;refine iz G.g bd (i:=i+1) ?_;rw [HST.out,gvS];have hpre:aK ([a,b].take j)++aF x <+: aF a++aF b:=by
    refine ⟨aK ([a,b].drop (j+1)),?_⟩;have h1:=(iF HXJ.out).2;rw [List.append_assoc,← h1];simp [aK]
   have h4:gvN G.g bd s1 (aK ([a,b].take j)++aF x)=.error e:=by rw [iA,HV2.out,bq];exact h3
   rw [nL G.g bd h4 hpre,cE]
 obtain rfl:j=2:=by omega
 have hv2:gvN G.g bd s1 (aF a++aF b)=.ok s2:=by have h:=HV2.out;simpa [aK] using h
 have hT:FrO G.ob w wq:=HTB.out.trans HFq.out;have hF1:FrO G.ob W1 wq:=HFB.out.trans HFq.out;obtain ⟨Ds,rfl,hmk⟩:=HMk.out;have HBQ:=aW (And.intro (hF1.blk HB.out.1 HN.out.1) (And.intro (hF1.blk HB.out.2.1 HN.out.2.1) (And.intro (hF1.blk HB.out.2.2 HN.out.2.2) (HFq.out.blk HNS.out.2 HNS.out.1))));have HNQ:=aW (And.intro (hF1.not_own HB.out.1.lt HN.out.1) (And.intro (hF1.not_own HB.out.2.1.lt HN.out.2.1) (And.intro (hF1.not_own HB.out.2.2.lt HN.out.2.2) (HFq.out.not_own HNS.out.2.lt HNS.out.1))));have HTQ:=aW hT;have HFW:=aW hF1;have HMD:=aW hmk;have HV3:=aW hv2;have hlts:=HBQ.out.1.lt;obtain ⟨c5,f5,l5⟩:=HBQ.out.2.1.rules;obtain ⟨cs_,fs_,ls_⟩:=HBQ.out.2.2.2.rules;have z0:=cs_ 0;simp at z0;clear hv2 hT hF1 hmk HV2 HTB HFB HNS HMk HKE HKR HGJ hlj hj HFq HB HN cs_ fs_ ls_ hlts
 gi_upto_if 45 with fail
 obtain ⟨NQ,hNQ⟩:∃ NQ:Act->World->Prop,∀ a' w',NQ a' w' ↔ (∃ (u45 u46 u47 u48 u49 u50 u51 u52 u53 u54 u55 u56 u57 u58 u59 u60 u61 u62 u63:Value) ( A':Option Addr) (nb' cb':Nat) (bd':List (List UInt8)) (s3:σ),a'={ tmps:=#[Zp (some ⟨gb,0,none⟩),Zs (some ⟨bl,o,none⟩) n cL,Zs A nb cb,Zp (some ⟨w.heap.size,0,none⟩),undef,Zp (some ⟨w.heap.size+1,0,none⟩),.func (.func 61) #[Zp (some ⟨gb,0,none⟩)] #[],undef,Zp (some ⟨gs,0,none⟩),undef,u10,u11,Zs A' nb' cb',Zp (some ⟨gb,0,none⟩),.func (.func 61) #[Zp (some ⟨gb,0,none⟩)] #[],Zs (some ⟨bl,o,none⟩) n cL,Zi Zq (n:Int),Zi Zq (i:Int),u18,u19,u20,u21,u22,u23,u24,Zs (some ⟨Wa.heap.size,0,none⟩) 2 2,Zi Zq 2,Zi Zq ((2:Nat):Int),.bool false,u29,u30,u31,u32,undef,u34,u35,u36,u37,u38,u39,u40,u41,Zs A nb cb,Zp (some ⟨gs,0,none⟩),Zi Zq k,u45,u46,u47,u48,u49,u50,u51,u52,u53,u54,u55,u56,u57,u58,u59,u60,u61,u62,u63,u64,u65,u66,u67,u68,u69,u70,u71,u72,u73,u74],defers:=Ds.map mkD }/\bd'.length=nb'/\nb'+M<=4194304/\nb'<=cb'/\((A'=none/\cb'=0)∨∃ b o,A'=some ⟨b,o,none⟩)/\G.ms s3<=G.ms s2 /\
   Hid (RdF w' (λ b=>¬ aM G.ob w' b) A' (ar bd'))/\Hid (G.Sx s3 w')/\Hid (FrO G.ob wq w')/\Hid (gvS G.g bd (.mk k s a b body els) s1=thn (gvL G.g bd' body s3) λ st3=>gvL G.g bd els st3)):=⟨_,λ _ _=>Iff.rfl⟩
 have HNQ9:=aW hNQ;clear hNQ;refine wpIn_mono (Q:=ye NQ
  (λ ch ds w' => ∃ x s3,ch=[{ v:=.iface 90 (Zi Zq x),recovered:=false }]/\ds=Ds.map mkD/\gvS G.g bd (.mk k s a b body els) s1=.error x/\G.Sx s3 w'/\FrO G.ob wq w')) ?c1 ?c2
 case c1 =>
  by_cases hk:k=3;rotate_left
  ·have hkb:(k == 3)=false:=by simpa using hk
   have HGV:=aW (show gvS G.g bd (.mk k s a b body els) s1=thn (gvL G.g bd body s2) λ st3=>gvL G.g bd els st3 by rw [gvS,HV3.out,bq,if_neg hk]);rw [hkb];gi_wp2;exact (HNQ9.out _ _).2 ⟨_,_,_,_,_,_,_,_,_,_,_,_,_,_,_,_,_,_,_,_,_,_,bd,s2,rfl,HBD.out.1,by have:=HM.out.2.1;omega,HBD.out.2.2.2,HBD.out.2.2.1,Nat.le_refl _,aW (HBD.out.2.1.fro HTQ.out),HSx,aW (.refl _ _),HGV⟩
  ·subst hk;have hcl:=HG.out.lp 2 s2 s bd A nb cb wq.drew (HG.out.st.bel HSx.out (Below.refl _ wq).drew) (by
     have h1:=lm HG.out (l.take i) _ _ _ HV.out;have h2:=re HG.out _ _ _ _ HV3.out;have h3:=HSU.out;have ha:=bj a;have hb:=bj b;have:=HM.out.2.2;have:=HM.out.1;rw [dv] at h3;rw [List.length_append] at h2;omega) HBD.out.1 hnb4 (HBD.out.2.1.fro (HTQ.out.trans (FrO.of_below (λ b e=>Nat.lt_of_lt_of_le (HOB.out b e) HTQ.out.size) (Below.refl _ wq).drew)))
   have HCL:=aW hcl;have he2:=HG.out.e2;clear hcl c5 f5 l5 z0;rw [show ((3:Int) == 3)=true from rfl]
   gi_upto_region 14 with fail
   refine eO (S:=λ w'=>Blk w' w.heap.size 92 #[Zp (some ⟨gb,0,none⟩)]/\Blk w' (w.heap.size+1) 40 #[Zs A nb cb]/\Blk w' gb 95 #[.func (.func G.f1) #[] G.b1,.func (.func G.f2) #[] G.b2]/\Blk w' gs 48 #[Zi Zq 3,Zt ⟨s.toArray⟩,Zi Zq ka,Zi Zq kva,Zi Zq nva,Zt sva,Zs Ava nka cka,Zs Bva nya cya,Zt sa,Zs Ca nxa cxa,Zi Zq kb,Zi Zq kvb,Zi Zq nvb,Zt svb,Zs Avb nkb ckb,Zs Bvb nyb cyb,Zt sb,Zs Cb nxb cxb,Zs BA nbo cbo,Zs EA nel cel]) (by kernel_rfl) (by exact HBQ.out) (λ hHeld=>?_);refine az 0 (Zp (some ⟨gb,0,none⟩)) (oi:=⟨some 46,_,_,_,_,_⟩) rfl (by kernel_rfl) (by kernel_rfl) (by kernel_rfl) (by kernel_rfl) (λ _ _ _ h=>h) ⟨Or.inl ⟨by kernel_rfl,?_⟩,λ _=>rfl⟩ (by assumption) ?_
   ·intro W' hSw;obtain ⟨⟨c3,f3,l3⟩,⟨c5,f5,l5⟩,⟨c9,f9,l9⟩,c8,f8,l8⟩:=And.intro hSw.1.rules (And.intro hSw.2.1.rules (And.intro hSw.2.2.1.rules hSw.2.2.2.rules));go_simp
   try simp only [pU]
   refine az 1 (Zp (some ⟨gb,0,none⟩)) (oi:=⟨some 47,_,_,_,_,_⟩) rfl (by kernel_rfl) (by kernel_rfl) (by kernel_rfl) (by kernel_rfl) (λ _ _ _ h=>h) ⟨Or.inl ⟨by kernel_rfl,?_⟩,λ _=>rfl⟩ (by assumption) ?_
   ·intro W' hSw;obtain ⟨⟨c3,f3,l3⟩,⟨c5,f5,l5⟩,⟨c9,f9,l9⟩,c8,f8,l8⟩:=And.intro hSw.1.rules (And.intro hSw.2.1.rules (And.intro hSw.2.2.1.rules hSw.2.2.2.rules));go_simp
   try simp only [pU]
   refine az 2 (Zp (some ⟨gb,1,none⟩)) (oi:=⟨some 48,_,_,_,_,_⟩) rfl (by kernel_rfl) (by kernel_rfl) (by kernel_rfl) (by kernel_rfl) (λ _ _ _ h=>h) ⟨Or.inl ⟨by kernel_rfl,?_⟩,λ _=>rfl⟩ (by assumption) ?_
   ·intro W' hSw;obtain ⟨⟨c3,f3,l3⟩,⟨c5,f5,l5⟩,⟨c9,f9,l9⟩,c8,f8,l8⟩:=And.intro hSw.1.rules (And.intro hSw.2.1.rules (And.intro hSw.2.2.1.rules hSw.2.2.2.rules));go_simp
   try simp only [pU]
   refine az 3 (.func (.func G.f2) #[] G.b2) (oi:=⟨some 49,_,_,_,_,_⟩) rfl (by kernel_rfl) (by kernel_rfl) (by kernel_rfl) (by kernel_rfl) (λ _ _ _ h=>h) ⟨Or.inl ⟨by kernel_rfl,?_⟩,λ _=>rfl⟩ (by assumption) ?_
   ·intro W' hSw;obtain ⟨⟨c3,f3,l3⟩,⟨c5,f5,l5⟩,⟨c9,f9,l9⟩,c8,f8,l8⟩:=And.intro hSw.1.rules (And.intro hSw.2.1.rules (And.intro hSw.2.2.1.rules hSw.2.2.2.rules));go_simp
   try simp only [pU]
   refine az 4 (Zp (some ⟨gs,1,none⟩)) (oi:=⟨some 50,_,_,_,_,_⟩) rfl (by kernel_rfl) (by kernel_rfl) (by kernel_rfl) (by kernel_rfl) (λ _ _ _ h=>h) ⟨Or.inl ⟨by kernel_rfl,?_⟩,λ _=>rfl⟩ (by assumption) ?_
   ·intro W' hSw;obtain ⟨⟨c3,f3,l3⟩,⟨c5,f5,l5⟩,⟨c9,f9,l9⟩,c8,f8,l8⟩:=And.intro hSw.1.rules (And.intro hSw.2.1.rules (And.intro hSw.2.2.1.rules hSw.2.2.2.rules));go_simp
   try simp only [pU]
   refine az 5 (Zt ⟨s.toArray⟩) (oi:=⟨some 51,_,_,_,_,_⟩) rfl (by kernel_rfl) (by kernel_rfl) (by kernel_rfl) (by kernel_rfl) (λ _ _ _ h=>h) ⟨Or.inl ⟨by kernel_rfl,?_⟩,λ _=>rfl⟩ (by assumption) ?_
   ·intro W' hSw;obtain ⟨⟨c3,f3,l3⟩,⟨c5,f5,l5⟩,⟨c9,f9,l9⟩,c8,f8,l8⟩:=And.intro hSw.1.rules (And.intro hSw.2.1.rules (And.intro hSw.2.2.1.rules hSw.2.2.2.rules));go_simp
   try simp only [pU]
   refine az 6 (Zs A nb cb) (oi:=⟨some 52,_,_,_,_,_⟩) rfl (by kernel_rfl) (by kernel_rfl) (by kernel_rfl) (by kernel_rfl) (λ _ _ _ h=>h) ⟨Or.inl ⟨by kernel_rfl,?_⟩,λ _=>rfl⟩ (by assumption) ?_
   ·intro W' hSw;obtain ⟨⟨c3,f3,l3⟩,⟨c5,f5,l5⟩,⟨c9,f9,l9⟩,c8,f8,l8⟩:=And.intro hSw.1.rules (And.intro hSw.2.1.rules (And.intro hSw.2.2.1.rules hSw.2.2.2.rules));go_simp
   try simp only [pU]
   refine ei (rs:=[7]) (by kernel_rfl) (by simp) ?_;refine dj.cons (o:=⟨some 53,_,_,_,_,_⟩) rfl (λ K hK=>?_) dj.nil;go_simp;refine ⟨HCL.out.1,HCL.out.mono ?_⟩;rintro e w' ⟨hf,hc⟩;have hf2:FrO G.ob wq w':=(FrO.of_below (λ b e=>Nat.lt_of_lt_of_le (HOB.out b e) HTQ.out.size) (Below.refl _ wq).drew).trans hf;cases hr:G.g.lp s2 s bd with
   |error y =>
    rw [hr] at hc;obtain ⟨rfl,s9,hs9⟩:=hc;exact ⟨y,s9,rfl,rfl,by rw [gvS,HV3.out,bq,if_pos rfl,hr,cE,cE],hs9,hf2⟩
   |ok s3 =>
    rw [hr] at hc;obtain ⟨rfl,hs3⟩:=hc;have HB4:=aW (show Blk w' w.heap.size 92 #[Zp (some ⟨gb,0,none⟩)]/\Blk w' (w.heap.size+1) 40 #[Zs A nb cb]/\Blk w' gb 95 #[.func (.func G.f1) #[] G.b1,.func (.func G.f2) #[] G.b2]/\Blk w' gs 48 #[Zi Zq 3,Zt ⟨s.toArray⟩,Zi Zq ka,Zi Zq kva,Zi Zq nva,Zt sva,Zs Ava nka cka,Zs Bva nya cya,Zt sa,Zs Ca nxa cxa,Zi Zq kb,Zi Zq kvb,Zi Zq nvb,Zt svb,Zs Avb nkb ckb,Zs Bvb nyb cyb,Zt sb,Zs Cb nxb cxb,Zs BA nbo cbo,Zs EA nel cel] from ⟨hf2.blk HBQ.out.1 HNQ.out.1,hf2.blk HBQ.out.2.1 HNQ.out.2.1,hf2.blk HBQ.out.2.2.1 HNQ.out.2.2.1,hf2.blk HBQ.out.2.2.2 HNQ.out.2.2.2⟩);have HF2:=aW hf2;have HS3:=aW hs3;have HGV:=aW (show gvS G.g bd (.mk 3 s a b body els) s1=thn (gvL G.g (bd++[s]) body s3) λ st3=>gvL G.g bd els st3 by rw [gvS,HV3.out,bq,if_pos rfl,hr,bq]);have HMS3:=aW (HG.out.lms _ _ _ _ hr);clear hf hf2 hs3 hr;refine hK.out _ _ HB4.out (λ hHeld=>?_);refine gm (by kernel_rfl) ?_ _;clear hK K hHeld;have hTw:FrO G.ob w w':=HTQ.out.trans HF2.out;have hOw:=hTw.ownlt HO0.out;have hobw:∀ b,G.ob=some b->b<w'.heap.size:=λ b e=>Nat.lt_of_lt_of_le (HOB.out b e) hTw.size
    have hAn:A=none->nb=0:=λ e=>by
     rcases HBD.out.2.2.1 with h | ⟨b9,o9,h⟩
     ·have:=HBD.out.2.2.2;omega
     ·rw [e] at h;cases h
    have hsl:∀ W:World,(Instr.slice 40 (Zs A nb cb) none (some (Zi Zq nb)) (some (Zi Zq nb))).run Tryz.prog W=.ok (Zs A nb nb) W:=λ W=>by
     have hc:=HBD.out.2.2.2;rcases HBD.out.2.2.1 with ⟨h1,h2⟩ | ⟨b9,o9,h1⟩
     ·subst h1;have:=hAn rfl;subst this h2;go_simp
     ·subst h1;go_simp
    have HAN:=aW hAn;have HTW:=aW hTw;have HOW:=aW (And.intro hOw hobw);clear hTw hOw hobw hAn
    gi_upto_region 15 with fail
    refine eO (S:=λ w'=>Blk w' (w.heap.size+1) 40 #[Zs A nb cb]/\Blk w' gs 48 #[Zi Zq 3,Zt ⟨s.toArray⟩,Zi Zq ka,Zi Zq kva,Zi Zq nva,Zt sva,Zs Ava nka cka,Zs Bva nya cya,Zt sa,Zs Ca nxa cxa,Zi Zq kb,Zi Zq kvb,Zi Zq nvb,Zt svb,Zs Avb nkb ckb,Zs Bvb nyb cyb,Zt sb,Zs Cb nxb cxb,Zs BA nbo cbo,Zs EA nel cel]) (by kernel_rfl) (by exact ⟨HB4.out.2.1,HB4.out.2.2.2⟩) (λ hHeld=>?_);refine az 0 (Zs A nb cb) (oi:=⟨some 54,_,_,_,_,_⟩) rfl (by kernel_rfl) (by kernel_rfl) (by kernel_rfl) (by kernel_rfl) (λ _ _ _ h=>h) ⟨Or.inl ⟨by kernel_rfl,?_⟩,λ _=>rfl⟩ (by assumption) ?_
    ·intro W' hSw;obtain ⟨⟨c5,f5,l5⟩,c8,f8,l8⟩:=And.intro hSw.1.rules hSw.2.rules;go_simp
    try simp only [pU]
    refine az 1 (Zs A nb cb) (oi:=⟨some 55,_,_,_,_,_⟩) rfl (by kernel_rfl) (by kernel_rfl) (by kernel_rfl) (by kernel_rfl) (λ _ _ _ h=>h) ⟨Or.inl ⟨by kernel_rfl,?_⟩,λ _=>rfl⟩ (by assumption) ?_
    ·intro W' hSw;obtain ⟨⟨c5,f5,l5⟩,c8,f8,l8⟩:=And.intro hSw.1.rules hSw.2.rules;go_simp
    try simp only [pU]
    refine az 2 (Zi Zq (nb:Int)) (oi:=⟨some 56,_,_,_,_,_⟩) rfl (by kernel_rfl) (by kernel_rfl) (by kernel_rfl) (by kernel_rfl) (λ _ _ _ h=>h) ⟨Or.inl ⟨by kernel_rfl,?_⟩,λ _=>rfl⟩ (by assumption) ?_
    ·intro W' hSw;obtain ⟨⟨c5,f5,l5⟩,c8,f8,l8⟩:=And.intro hSw.1.rules hSw.2.rules;go_simp
    try simp only [pU]
    refine az 3 (Zs A nb cb) (oi:=⟨some 57,_,_,_,_,_⟩) rfl (by kernel_rfl) (by kernel_rfl) (by kernel_rfl) (by kernel_rfl) (λ _ _ _ h=>h) ⟨Or.inl ⟨by kernel_rfl,?_⟩,λ _=>rfl⟩ (by assumption) ?_
    ·intro W' hSw;obtain ⟨⟨c5,f5,l5⟩,c8,f8,l8⟩:=And.intro hSw.1.rules hSw.2.rules;go_simp
    try simp only [pU]
    refine az 4 (Zi Zq (nb:Int)) (oi:=⟨some 58,_,_,_,_,_⟩) rfl (by kernel_rfl) (by kernel_rfl) (by kernel_rfl) (by kernel_rfl) (λ _ _ _ h=>h) ⟨Or.inl ⟨by kernel_rfl,?_⟩,λ _=>rfl⟩ (by assumption) ?_
    ·intro W' hSw;obtain ⟨⟨c5,f5,l5⟩,c8,f8,l8⟩:=And.intro hSw.1.rules hSw.2.rules;go_simp
    try simp only [pU]
    refine az 5 (Zs A nb nb) (oi:=⟨some 59,_,_,_,_,_⟩) rfl (by kernel_rfl) (by kernel_rfl) (by kernel_rfl) (by kernel_rfl) (λ _ _ _ h=>h) ⟨Or.inl ⟨by kernel_rfl,?_⟩,λ _=>rfl⟩ (by assumption) ?_
    ·intro W' hSw;obtain ⟨⟨c5,f5,l5⟩,c8,f8,l8⟩:=And.intro hSw.1.rules hSw.2.rules;go_simp
    try simp only [pU]
    refine az 6 (Zp (some ⟨gs,1,none⟩)) (oi:=⟨some 60,_,_,_,_,_⟩) rfl (by kernel_rfl) (by kernel_rfl) (by kernel_rfl) (by kernel_rfl) (λ _ _ _ h=>h) ⟨Or.inl ⟨by kernel_rfl,?_⟩,λ _=>rfl⟩ (by assumption) ?_
    ·intro W' hSw;obtain ⟨⟨c5,f5,l5⟩,c8,f8,l8⟩:=And.intro hSw.1.rules hSw.2.rules;go_simp
    try simp only [pU]
    refine az 7 (Zt ⟨s.toArray⟩) (oi:=⟨some 61,_,_,_,_,_⟩) rfl (by kernel_rfl) (by kernel_rfl) (by kernel_rfl) (by kernel_rfl) (λ _ _ _ h=>h) ⟨Or.inl ⟨by kernel_rfl,?_⟩,λ _=>rfl⟩ (by assumption) ?_
    ·intro W' hSw;obtain ⟨⟨c5,f5,l5⟩,c8,f8,l8⟩:=And.intro hSw.1.rules hSw.2.rules;go_simp
    try simp only [pU]
    refine ei (rs:=[8]) (by kernel_rfl) (by simp) ?_;refine dj.cons (o:=⟨some 62,_,_,_,_,_⟩) rfl (λ K hK=>?_) dj.nil;go_simp;refine hK.out _ _ (by exact ⟨(HB4.out.2.1.alloc _).drew,(HB4.out.2.2.2.alloc _).drew⟩) (λ hHeld2=>?_);clear hK K hHeld
    try simp only [pU]
    obtain ⟨W2,hW2⟩:∃ W2,(w'.alloc (.cells #[Zt ⟨s.toArray⟩] 9)).drew=W2:=⟨_,rfl⟩
    have hb2:Below w'.heap.size w' W2:=by rw [← hW2];exact ((Below.refl _ w').alloc (Nat.le_refl _) _).drew
    have hc2:Blk W2 w'.heap.size 9 #[Zt ⟨s.toArray⟩]:=by rw [← hW2];exact (Blk.new w' _ _).drew
    have hs2:W2.heap.size=w'.heap.size+1:=by rw [← hW2];show (w'.alloc _).heap.size=_;simp
    rw [hW2] at hHeld2 ⊢;clear hW2;have hrW:Rd W2 A (ar bd):=(HBD.out.2.1.fro HTW.out).rd.below hb2;refine ei (rs:=[9]) (by kernel_rfl) (by simp) ?_;refine dj.cons (o:=⟨some 63,_,_,_,_,_⟩) rfl (λ K hK=>?_) dj.nil;rw [if_pos (by kernel_rfl)];refine rK (.tmp 59) (.tmp 62) rfl bd nb A s w'.heap.size HBD.out.1 HAN.out hrW (HBD.out.2.2.1.imp And.left id) (hc2.cell 0) hc2.lt (by have:=HM.out.2.1;omega) rfl rfl ?_;intro v' w6 hown hgr;have hb6:Below w'.heap.size w' w6:=hb2.grown hgr hb2.size (λ k e=>by cases e);obtain ⟨A2,e2c,rfl,hc9,_,hrd⟩:=bJ hown;have hA2:∃ b o,A2=some ⟨b,o,none⟩:=by
     obtain ⟨b,o,e,_⟩:=hrd (by intro e;have:=congrArg List.length e;rw [av] at this;simp at this);exact ⟨b,o,e⟩
    have hrd2:RdF w6 (λ b=>¬ aM G.ob w6 b) A2 (ar (bd++[s])):=hrd.mono λ b _ hb h=>by
     have:=HOW.out.1 _ (cz (λ b e=>hb6.block b (HOW.out.2 b e)) h);omega
    have HEND:=aW (And.intro hc9 (And.intro hA2 (And.intro hrd2 (And.intro (HG.out.st.bel HS3.out hb6) (HF2.out.trans (FrO.of_below HOW.out.2 hb6))))));have hS6:(λ w'=>Blk w' (w.heap.size+1) 40 #[Zs A nb cb]/\Blk w' gs 48 #[Zi Zq 3,Zt ⟨s.toArray⟩,Zi Zq ka,Zi Zq kva,Zi Zq nva,Zt sva,Zs Ava nka cka,Zs Bva nya cya,Zt sa,Zs Ca nxa cxa,Zi Zq kb,Zi Zq kvb,Zi Zq nvb,Zt svb,Zs Avb nkb ckb,Zs Bvb nyb cyb,Zt sb,Zs Cb nxb cxb,Zs BA nbo cbo,Zs EA nel cel]) w6:=⟨hHeld2.1.grown hgr (by simp),hHeld2.2.grown hgr (by simp)⟩
    clear hown hgr hb6 hrd hrd2 hA2 hc9 hHeld2 hrW;refine hK.out _ _ hS6 (λ hHeld=>?_);clear hK K
    try simp only [pU]
    refine az 10 (Zs A2 (nb+1) e2c) (oi:=⟨some 12,_,_,_,_,_⟩) rfl (by kernel_rfl) (by kernel_rfl) (by kernel_rfl) (by kernel_rfl) (λ _ _ _ h=>h) ⟨Or.inl ⟨by kernel_rfl,?_⟩,λ _=>rfl⟩ (by assumption) ?_
    ·intro W' hSw;go_simp
    try simp only [pU]
    refine gm (by kernel_rfl) ?_ _;exact (HNQ9.out _ _).2 ⟨_,_,_,_,_,_,_,_,_,_,_,_,_,_,_,_,_,_,_,_,_,_,bd++[s],s3,rfl,by rw [List.length_append,HBD.out.1];rfl,by have:=HM.out.2.1;omega,HEND.out.1,.inr HEND.out.2.1,HMS3.out,aW HEND.out.2.2.1,aW HEND.out.2.2.2.1,aW HEND.out.2.2.2.2,HGV⟩
 case c2 =>
  clear c5 f5 l5 z0;have hsb:=HSU.out;rw [dv] at hsb;have hm1:=lm HG.out (l.take i) _ _ _ HV.out;have hm2:=re HG.out _ _ _ _ HV3.out;rw [List.length_append] at hm2;have hna:=bj a;have hnb:=bj b;have hM1:=HM.out.1;have hM3:=HM.out.2.2;have HBG:=aW (show G.ms s2+ap body+ap els<=16777216/\ap body<M/\ap els<M by omega);clear hsb hm1 hm2 hna hnb hM1 hM3;intro e a' w' h;cases e with
  |panic ch =>
   obtain ⟨x,s3,rfl,hds,hgv,hs3,hf⟩:=h;have h9:=HPN.out x w' Ds a'.tmps s3 (iz G.g bd (i:=i+1) (by rw [HST.out];exact hgv)) (HTQ.out.trans hf) (HMD.out.keep HG.out.st HSx.out hf) hs3;rw [← hds] at h9;exact h9
  |normal =>
   obtain ⟨u45,u46,u47,u48,u49,u50,u51,u52,u53,u54,u55,u56,u57,u58,u59,u60,u61,u62,u63,A',nb',cb',bd',s3,rfl,hl',hM',hc',hA',hms',HR',HS',HF',HGV⟩:=(HNQ9.out _ _).1 h;have hgs':=HF'.out.blk HBQ.out.2.2.2 HNQ.out.2.2.2;have HC:=aW (dm (m:=2) (HI.out body bd' bss BA nbo cbo A' nb' cb' s3 w' gb HBG.out.2.1 (HX.out.2.2.1.1.fro (HTQ.out.trans HF'.out)) HNB.out.1 HX.out.2.2.1.2.1 (HX.out.2.2.1.2.2.fro (HTQ.out.trans HF'.out)) hl' hM' hc' hA' HR'.out
    (HF'.out.blk HBQ.out.2.2.1 HNQ.out.2.2.1) (HF'.out.not_own HBQ.out.2.2.1.lt HNQ.out.2.2.1) HS'.out (by have:=HBG.out.1;omega)))
   obtain ⟨c8,f8,l8⟩:=hgs'.rules;have z18:=c8 18;simp at z18;clear hgs' c8 f8 l8 hl' hM' hc' hA';have HMS:=aW hms';clear hms';gi_wp2_with fail;refine ⟨aC (by kernel_rfl),HC.out.mono ?_⟩;rintro e w5 ⟨hf5,hc5⟩;have hF5:FrO G.ob wq w5:=HF'.out.trans hf5;clear z18;cases hr:gvL G.g bd' body s3 with
   |error y =>
    rw [hr] at hc5;obtain ⟨rfl,s9,hs9⟩:=hc5;have h9:=λ tm=>HPN.out y w5 Ds tm s9 (iz G.g bd (i:=i+1) (by rw [HST.out,HGV.out,hr,cE])) (HTQ.out.trans hF5) (HMD.out.keep HG.out.st HSx.out hF5) hs9
    gi_wp2;exact h9 _
   |ok s4 =>
    rw [hr] at hc5;obtain ⟨rfl,hs4⟩:=hc5;have hm4:=lm HG.out _ _ _ _ hr;have hgs':=hF5.blk HBQ.out.2.2.2 HNQ.out.2.2.2;have HC2:=aW (dm (m:=2) (HI.out els bd ess EA nel cel A nb cb s4 w5 gb HBG.out.2.2 (HX.out.2.2.2.1.fro (HTQ.out.trans hF5)) HNB.out.2 HX.out.2.2.2.2.1 (HX.out.2.2.2.2.2.fro (HTQ.out.trans hF5)) HBD.out.1 (by have:=HM.out.2.1;omega) HBD.out.2.2.2 HBD.out.2.2.1 (HBD.out.2.1.fro (HTQ.out.trans hF5))
     (hF5.blk HBQ.out.2.2.1 HNQ.out.2.2.1) (hF5.not_own HBQ.out.2.2.1.lt HNQ.out.2.2.1) hs4 (by have:=HBG.out.1;have:=HMS.out;omega)))
    have HGV2:=aW (show gvS G.g bd (.mk k s a b body els) s1=gvL G.g bd els s4 by rw [HGV.out,hr,bq]);have HF5:=aW hF5;obtain ⟨c5,f5,l5⟩:=(hF5.blk HBQ.out.2.1 HNQ.out.2.1).rules;obtain ⟨c8,f8,l8⟩:=hgs'.rules;have z19:=c8 19;simp at z19;clear hgs' c8 f8 l8 hm4 hr hF5 hf5 hs4;gi_wp2_with fail;refine ⟨aC (by kernel_rfl),HC2.out.mono ?_⟩;rintro e w6 ⟨hf6,hc6⟩;have hF6:FrO G.ob wq w6:=HF5.out.trans hf6;clear z19 c5 f5 l5;cases hr:gvL G.g bd els s4 with
    |error y =>
     rw [hr] at hc6;obtain ⟨rfl,s9,hs9⟩:=hc6;have h9:=λ tm=>HPN.out y w6 Ds tm s9 (iz G.g bd (i:=i+1) (by rw [HST.out,HGV2.out,hr])) (HTQ.out.trans hF6) (HMD.out.keep HG.out.st HSx.out hF6) hs9
     gi_wp2;exact h9 _
    |ok s5 =>
     rw [hr] at hc6;obtain ⟨rfl,hs5⟩:=hc6;have HEND:=aW (And.intro (show gvL G.g bd (l.take (i+1)) st=.ok s5 by rw [HST.out,HGV2.out,hr]) (And.intro hs5 (And.intro hF6 (HMD.out.keep HG.out.st HSx.out hF6))));clear hr hs5 hf6 hF6;gi_wp2
     gi_roundg (n-(i+1))
     case measure=>rw [HGK.out];omega
     case rel=>exact ⟨i+1,s5,hlt,rfl,by go_num,aW HEND.out.1,aW HEND.out.2.1,aW (HFW.out.trans HEND.out.2.2.1),aW ⟨Ds,rfl,HEND.out.2.2.2⟩⟩
  | exit id=>exact h.elim
  | goto id=>exact h.elim
  | ret=>exact h.elim
  | outgrown=>exact h.elim
theorem jR {σ:Type} {G:GoX σ} (hG:G.Ok):∀ M,rR G M
 | 0=>λ l bd css AL n cL A nb cb st w gb hM=>absurd hM (Nat.not_lt_zero _)
 | M+1=>xv hG M (jR hG M)
end
end Go.Proofs.YtgmnmnnoahdjnaaGreatDoor
