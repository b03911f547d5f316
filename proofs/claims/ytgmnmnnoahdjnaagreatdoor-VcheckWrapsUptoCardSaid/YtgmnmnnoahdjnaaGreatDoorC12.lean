import Derived.Test.YtgmnmnnoahdjnaaGreatDoorC07
open Go.Value renaming int → Zi, slice → Zs, string → Zt, pointer → Zp
open Go.IntKind renaming i64 → Zq
set_option maxRecDepth 100000
set_option maxHeartbeats 16000000
set_option linter.unusedVariables false
set_option linter.unusedSimpArgs false
namespace Go.Proofs.YtgmnmnnoahdjnaaGreatDoor
section
open Go.RowKit Go.Shelf
def su (P:Program) (l:Nat) (R:Ending->World->Prop):Exit->Act->World->Prop
 | .normal,_,w => ∃ v w',(Instr.endRound l none).run P w=.ok v w'/\R (.returned v) w'
 | .ret,_,w => ∃ v w',(Instr.endRound l (some .ret)).run P w=.ok v w'/\R (.returned v) w'
 | .exit id,_,w => ∃ v w',(Instr.endRound l (some (.exit id))).run P w=.ok v w'/\R (.returned v) w'
 | .goto t,_,w => ∃ v w',(Instr.endRound l (some (.goto t))).run P w=.ok v w'/\R (.returned v) w'
 | .panic ch,a,w=>a.defers=[]/\R (.panicked ch) w
 | .outgrown,_,_=>False
theorem kH {F:Fence} {n:Nat} {P:Program} {l:Nat} {f:FuncId} {fn:Func} {tmps:Array Value} {assign body:Code} {w:World} {R:Ending->World->Prop} (hF:F.fn f) (hfn:P.funcs[f]? = some fn)
  (h:assign.wpIn (F.inRound l) n P (Exit.then (λ a₁ w₁ => ∃ w₂,(Instr.beginRound l).run P w₁=.ok () w₂/\body.wpIn (F.inRound l) n P (su P l R) a₁ w₂) (λ _ _ _=>False))
   { tmps:=tmps,defers:=[] } w) :
  RoundIn F n P l f tmps assign body w R:=by
 refine ⟨hF,λ c cs hr=>?_⟩
 let b:Frame:={ (default:Frame) with fn:=f,kind:=.normal,roundOf:=some l }
 have hb0:Frame.round l f tmps assign body .normal=b.atR { tmps:=tmps,defers:=[] } [.code assign,.beginRound,.code body]:=by
  simp [Frame.round,Frame.atR,b]
 have hr':(F.inRound l).room ((c::cs).length+1+n):=hr;have hF':(F.inRound l).fn b.fn:=hF;obtain ⟨e,a₁,w₁,hq,harr⟩:=h b [.beginRound,.code body] (c::cs) rfl hF' hr';rw [← hb0] at harr;cases e with
 |normal =>
  obtain ⟨w₂,hbr,hbody⟩:=hq;have s1:StepsIn (Machine.fenced P (F.inRound l)) P (lone (b.atR a₁ [.beginRound,.code body]) (c::cs) w₁) (lone (b.atR a₁ [.code body]) (c::cs) w₂) :=
   .one (fenced_calm (fr:=b.atR a₁ [.beginRound,.code body]) hF' hr' rfl) (stepR_beginRound rfl hbr)
  obtain ⟨e₂,a₂,w₃,hq₂,harr₂⟩:=hbody b [] (c::cs) rfl hF' hr';cases e₂ with
  |normal =>
   obtain ⟨v,w₄,hend,hR⟩:=hq₂;exact ⟨.returned v,w₄,hR,(StepsIn.trans harr s1).trans (StepsIn.trans harr₂ (.one (fenced_calm (fr:=b.atR a₂ []) hF' hr' rfl) (stepR_round_end rfl rfl hend)))⟩
  |ret =>
   obtain ⟨v,w₄,hend,hR⟩:=hq₂;obtain ⟨k₁,hs⟩:=harr₂.2 rfl;exact ⟨.returned v,w₄,hR,(StepsIn.trans harr s1).trans (StepsIn.trans hs (.one (fenced_calm (fr:=b.atR a₂ (.code .ret::k₁)) hF' hr' rfl) (stepR_round_ret rfl rfl hend)))⟩
  |exit id =>
   obtain ⟨v,w₄,hend,hR⟩:=hq₂;obtain ⟨k₁,hk,hs⟩:=harr₂.2 rfl rfl;exact ⟨.returned v,w₄,hR,(StepsIn.trans harr s1).trans (StepsIn.trans hs (.one (fenced_calm (fr:=b.atR a₂ (.code (.exit id)::k₁)) hF' hr' rfl) (stepR_round_exit rfl rfl hk hend)))⟩
  |goto t =>
   obtain ⟨v,w₄,hend,hR⟩:=hq₂;obtain ⟨k₁,hk,hs⟩:=harr₂.2 rfl rfl;exact ⟨.returned v,w₄,hR,(StepsIn.trans harr s1).trans (StepsIn.trans hs (.one (fenced_calm (fr:=b.atR a₂ (.code (.goto t)::k₁)) hF' hr' rfl) (stepR_round_goto rfl rfl hk hend)))⟩
  |panic ch =>
   obtain ⟨hd,hR⟩:=hq₂;obtain ⟨todo,hs⟩:=harr₂;have hl:({ b.atR a₂ todo with mode:=.panicking ch }:Frame).leaving P w₃ (.panicked ch):=⟨rfl,hd,fn,hfn⟩
   exact ⟨.panicked ch,w₃,hR,(StepsIn.trans harr s1).trans (StepsIn.trans hs (.one (fenced_leaving hF' hr' hl) (step_leave_panicked hl)))⟩
  | outgrown=>exact hq₂.elim
 | exit id=>exact hq.elim
 | goto t=>exact hq.elim
 | ret=>exact hq.elim
 | panic chain=>exact hq.elim
 | outgrown=>exact hq.elim
def yT {α:Type} (F:Fence) (n:Nat) (P:Program) (g:Nat) (lb:Array Value) (encs:α->Array Value) (St Kp:World->World->Prop) (Adm:List α->α->Prop)
  (Done dn:List α->World->Prop) (w:World):Prop :=
 ∀ (l:Nat) (J Jx:List α->World->Prop) (Jp:List PanicEntry->World->Prop) (W:World),Below w.heap.size w W->(∀ s A B,St A B->J s A->J s B)->(∀ s A B,St A B->Jx s A->Jx s B) ->
  (∀ pre x W1,J pre W1->Adm pre x->YieldAt F (n-1) P l (encs x) W1 λ e W' =>
   (e=.returned (.bool true)/\J (pre++[x]) W'/\Kp W1 W')∨(e=.returned (.bool false)/\Jx (pre++[x]) W'/\Kp W1 W')∨(∃ ch,e=.panicked ch/\Jp ch W')) ->
  J [] W ->
  CallsIn F n P g (#[.func (.yield l) #[] #[]]++lb) W λ e W'=>((∃ v,e=.returned v)/\((∃ xs,Done xs W'/\J xs W')∨(∃ pre,dn pre W'/\Jx pre W')))∨(∃ ch,e=.panicked ch/\Jp ch W')
def yv {α:Type} (B:Nat) (Kp:World->World->Prop) (I:List α->World->Prop) (Ix:Code->List α->World->Prop) (Ip:List PanicEntry->World->Prop) (xs:List α) (W:World):Exit->Act->World->Prop
 | .normal,_,W'=>KeepsFrom B W W'/\Kp W W'/\I xs W'
 | .ret,_,W'=>KeepsFrom B W W'/\Kp W W'/\Ix .ret xs W'
 | .exit id,_,W'=>KeepsFrom B W W'/\Kp W W'/\Ix (.exit id) xs W'
 | .goto t,_,W'=>KeepsFrom B W W'/\Kp W W'/\Ix (.goto t) xs W'
 | .panic ch,a,W'=>a.defers=[]/\KeepsFrom B W W'/\Ip ch W'
 | .outgrown,_,_=>False
variable {F:Fence} {n:Nat} {P:Program}
theorem xz {α:Type} {g:Operand} {ps:Array Tmp} {assign body:Code} {Q:Exit->Act->World->Prop} {a:Act} {w:World}
  (hro:F.round=none) (h1:1<=n) {gf:Nat} {lb:Array Value} (hg:a.eval g=.func (.func gf) #[] lb) (hFg:F.fn gf) (eg:∀ args w,(callFunc gf args).run P w=.ok (.enter gf args) w)
  {encs:α->Array Value} {St Kp:World->World->Prop} {Adm:List α->α->Prop} {Done dn:List α->World->Prop} {w0:World} (hseq:yT F (n-1) P gf lb encs St Kp Adm Done dn w0)
  (hb0:Below w0.heap.size w0 w) (hps:∀ x,(encs x).size=ps.size)
  (hSk:∀ A B k o,St A B->w.heap.size<=k->A.heap[k]? = some o->o.isCells=false->B.heap[k]? = some o)
  (hKt:∀ {A B C:World},Kp A B->Kp B C->Kp A C) (hKb:∀ (W:World) (k:Nat) (o o':Obj),w.heap.size<=k->W.heap[k]? = some o->(∃ L,o=.loop L)->Kp W (W.putObj k o'))
  (hDp:∀ xs (W:World) (k:Nat) (o o':Obj),w.heap.size<=k->W.heap[k]? = some o->(∃ L,o=.loop L)->Done xs W->Done xs (W.putObj k o'))
  (hSp:∀ xs (W:World) (k:Nat) (o o':Obj),w.heap.size<=k->W.heap[k]? = some o->(∃ L,o=.loop L)->dn xs W->dn xs (W.putObj k o'))
  (I:List α->World->Prop) (Ix:Code->List α->World->Prop) (Ip:List PanicEntry->World->Prop) (hfun:∀ f,F.fn f->∃ fn,P.funcs[f]? = some fn)
  (hIS:∀ s A B,St A B->I s A->I s B) (hIxS:∀ c s A B,St A B->Ix c s A->Ix c s B)
  (hIp:∀ s (W:World) (k:Nat) (o o':Obj),w.heap.size<=k->W.heap[k]? = some o->(∃ L,o=.loop L)->I s W->I s (W.putObj k o'))
  (hIxp:∀ c s (W:World) (k:Nat) (o o':Obj),w.heap.size<=k->W.heap[k]? = some o->(∃ L,o=.loop L)->Ix c s W->Ix c s (W.putObj k o'))
  (h0:∀ o o',I [] ((w.alloc o).alloc o')) (a₁:α->Act)
  (hassign:∀ (l:Nat) (x:α) (W:World) (K:Act->World->Prop),K (a₁ x) W ->
   assign.wpIn (F.inRound l) (n-1-1) P (Exit.then K (λ _ _ _=>False)) { tmps:=(ps.zip (encs x)).foldl (λ t (p,v)=>t.setIfInBounds p v) a.tmps,defers:=[] } W)
  (hbody:∀ (l:Nat) (pre:List α) (x:α) (W:World),I pre W->Adm pre x->body.wpIn (F.inRound l) (n-1-1) P (yv w.heap.size Kp I Ix Ip (pre++[x]) W) (a₁ x) W)
  (hdone:∀ (D:Nat) (xs:List α) (W:World),w.heap.size<=D->Done xs W->I xs W->W.heap[D]? = some (.deferred (some []))->Q .normal { a with defers:={ target:=.collected D,args:=#[] }::a.defers } W)
  (hpan:∀ (D:Nat) (ch:List PanicEntry) (W:World),w.heap.size<=D->Ip ch W->W.heap[D]? = some (.deferred (some []))->Q (.panic ch) { a with defers:={ target:=.collected D,args:=#[] }::a.defers } W)
  (hstop:∀ (D:Nat) (c:Code) (pre:List α) (W:World),w.heap.size<=D->dn pre W->Ix c pre W->W.heap[D]? = some (.deferred (some []))->c.wpIn F n P Q { a with defers:={ target:=.collected D,args:=#[] }::a.defers } W) :
  (Code.rangeFunc g ps assign body).wpIn F n P Q a w:=by
 refine wpIn_rangeFunc ?_;intro fn hfn;rw [hro];generalize hrec:(λ (st:LoopState) (pe:Option Code)=>({ state:=st,pending:=pe,fn,tmps:=a.tmps,params:=ps,assign,body,defers:=w.heap.size }:Loop))=rec;generalize hW1:(w.alloc (.deferred (some []))).alloc (.loop (rec .ready none))=W1;have hsz1:W1.heap.size=w.heap.size+2:=by rw [← hW1];simp
 have hL1:W1.heap[w.heap.size+1]? = some (.loop (rec .ready none)):=by
  rw [← hW1];have:=heap_alloc_new (w.alloc (.deferred (some []))) (.loop (rec .ready none));rwa [World.size_alloc] at this
 have hK1:W1.heap[w.heap.size]? = some (.deferred (some [])):=by
  rw [← hW1];exact (Below.heap_alloc _ _ _ (by simp)).trans (heap_alloc_new w _)
 have hI1:I [] W1:=by rw [← hW1];exact h0 _ _
 have hb1:Below w0.heap.size w0 W1:=by
  rw [← hW1];exact hb0.trans ((((Below.refl _ w).alloc (Nat.le_refl _) _).alloc (by simp) _).mono hb0.size)
 have hrp:∀ st pe,(rec st pe).params=ps:=λ st pe=>by rw [← hrec]
 have hrs:∀ st pe,(rec st pe).state=st:=λ st pe=>by rw [← hrec]
 have hrd:∀ st pe,(rec st pe).pending=pe:=λ st pe=>by rw [← hrec]
 refine ⟨w.heap.size+1,[{ target:=.collected w.heap.size,args:=#[] }],W1,{ target:=.fn (.func gf) lb,args:=#[.func (.yield (w.heap.size+1)) #[] #[]] },W1,gf,
  #[.func (.yield (w.heap.size+1)) #[] #[]]++lb,W1,?_,?_,?_,?_,λ _=>h1,?_⟩
 ·rw [← hW1,← hrec];exact run_enterLoop_outer _ _ _ _ _
 ·simp only [resolve,hg];simp [go_sem]
 ·intro f' hf';simp [Target.leads] at hf';subst hf';exact hFg
 ·simp [invoke,go_sem,eg]
 refine (hseq (w.heap.size+1)
  (λ pre W=>I pre W/\W.heap[w.heap.size+1]? = some (.loop (rec .ready none))/\W.heap[w.heap.size]? = some (.deferred (some [])))
  (λ pre W => ∃ c,Ix c pre W/\W.heap[w.heap.size+1]? = some (.loop (rec .done (some c)))/\W.heap[w.heap.size]? = some (.deferred (some [])))
  (λ ch W=>Ip ch W/\W.heap[w.heap.size]? = some (.deferred (some [])))
  W1 hb1
  (λ s A B hs h=>⟨hIS s A B hs h.1,hSk A B _ _ hs (by omega) h.2.1 rfl,hSk A B _ _ hs (Nat.le_refl _) h.2.2 rfl⟩)
  (λ s A B hs h=>by obtain ⟨c,h1,h2,h3⟩:=h;exact ⟨c,hIxS c s A B hs h1,hSk A B _ _ hs (by omega) h2 rfl,hSk A B _ _ hs (Nat.le_refl _) h3 rfl⟩)
  ?_ ⟨hI1,hL1,hK1⟩).mono ?_
 ·rintro pre x W ⟨hi,hl,hk⟩ hadm;have hlt:w.heap.size+1<W.heap.size:=(Array.getElem?_eq_some_iff.1 hl).1;have hy:=run_yield (P:=P) (args:=encs x) hl (by rw [hrp];exact hps x);refine ⟨_,_,_,_,hy,?_⟩;have e1:(rec .ready none).fn=fn/\(rec .ready none).tmps=a.tmps/\(rec .ready none).assign=assign/\(rec .ready none).body=body:=by rw [← hrec];exact ⟨rfl,rfl,rfl,rfl⟩
  rw [e1.1,e1.2.1,e1.2.2.1,e1.2.2.2,hrp];have hbusy:({ rec .ready none with state:=.busy }:Loop)=rec .busy none:=by rw [← hrec]
  have hbr:=run_beginRound (P:=P) hl (hrs _ _);rw [hbusy] at hbr;obtain ⟨fn9,hfn9⟩:=hfun _ hfn;refine kH hfn hfn9 (hassign _ x W _ ⟨_,hbr,?_⟩);have hl2:(W.putObj (w.heap.size+1) (.loop (rec .busy none))).heap[w.heap.size+1]? = some (.loop (rec .busy none)):=World.putObj_heap_same hlt;have hk2:(W.putObj (w.heap.size+1) (.loop (rec .busy none))).heap[w.heap.size]? = some (.deferred (some [])):=(World.putObj_heap_other (by omega)).trans hk;have hw2:Kp W (W.putObj (w.heap.size+1) (.loop (rec .busy none))):=hKb _ _ _ _ (by omega) hl ⟨_,rfl⟩;refine wpIn_mono (hbody _ pre x _ (hIp _ _ _ _ _ (by omega) hl ⟨_,rfl⟩ hi) hadm) ?_;have fin:∀ (jump:Option Code) (W3:World),KeepsFrom w.heap.size (W.putObj (w.heap.size+1) (.loop (rec .busy none))) W3 ->
    (Instr.endRound (w.heap.size+1) jump).run P W3=.ok (.bool jump.isNone) (W3.putObj (w.heap.size+1) (.loop (rec (if jump.isNone then .ready else .done) jump))) /\
    W3.heap[w.heap.size+1]? = some (.loop (rec .busy none)) /\
    (W3.putObj (w.heap.size+1) (.loop (rec (if jump.isNone then .ready else .done) jump))).heap[w.heap.size+1]? = some (.loop (rec (if jump.isNone then .ready else .done) jump)) /\
    (W3.putObj (w.heap.size+1) (.loop (rec (if jump.isNone then .ready else .done) jump))).heap[w.heap.size]? = some (.deferred (some [])):=λ jump W3 hk3=>by
   have hl3:=hk3.same _ _ (by omega) hl2 rfl;have:=run_endRound (P:=P) jump hl3;rw [← hrec] at this hl3 ⊢;exact ⟨this,hl3,World.putObj_heap_same (Array.getElem?_eq_some_iff.1 hl3).1,(World.putObj_heap_other (by omega)).trans (hk3.same _ _ (Nat.le_refl _) hk2 rfl)⟩
  rintro e a3 W3 hp;cases e with
  |normal =>
   obtain ⟨hk3,hkp3,hi3⟩:=hp;obtain ⟨hr,hl3,hl4,hk4⟩:=fin none W3 hk3;exact ⟨_,_,hr,.inl ⟨rfl,⟨hIp _ _ _ _ _ (by omega) hl3 ⟨_,rfl⟩ hi3,hl4,hk4⟩,hKt (hKt hw2 hkp3) (hKb _ _ _ _ (by omega) hl3 ⟨_,rfl⟩)⟩⟩
  |ret =>
   obtain ⟨hk3,hkp3,hi3⟩:=hp;obtain ⟨hr,hl3,hl4,hk4⟩:=fin (some .ret) W3 hk3;exact ⟨_,_,hr,.inr (.inl ⟨rfl,⟨.ret,hIxp _ _ _ _ _ _ (by omega) hl3 ⟨_,rfl⟩ hi3,hl4,hk4⟩,hKt (hKt hw2 hkp3) (hKb _ _ _ _ (by omega) hl3 ⟨_,rfl⟩)⟩)⟩
  |exit id =>
   obtain ⟨hk3,hkp3,hi3⟩:=hp;obtain ⟨hr,hl3,hl4,hk4⟩:=fin (some (.exit id)) W3 hk3;exact ⟨_,_,hr,.inr (.inl ⟨rfl,⟨.exit id,hIxp _ _ _ _ _ _ (by omega) hl3 ⟨_,rfl⟩ hi3,hl4,hk4⟩,hKt (hKt hw2 hkp3) (hKb _ _ _ _ (by omega) hl3 ⟨_,rfl⟩)⟩)⟩
  |goto t =>
   obtain ⟨hk3,hkp3,hi3⟩:=hp;obtain ⟨hr,hl3,hl4,hk4⟩:=fin (some (.goto t)) W3 hk3;exact ⟨_,_,hr,.inr (.inl ⟨rfl,⟨.goto t,hIxp _ _ _ _ _ _ (by omega) hl3 ⟨_,rfl⟩ hi3,hl4,hk4⟩,hKt (hKt hw2 hkp3) (hKb _ _ _ _ (by omega) hl3 ⟨_,rfl⟩)⟩)⟩
  |panic ch =>
   obtain ⟨hd3,hk3,hi3⟩:=hp;exact ⟨hd3,.inr (.inr ⟨ch,rfl,hi3,hk3.same _ _ (Nat.le_refl _) hk2 rfl⟩)⟩
  | outgrown=>exact hp.elim
 ·rintro e W2 (⟨⟨v,rfl⟩,(⟨xs,hD,hi,hl,hk⟩ | ⟨pre,hS,c,hi,hl,hk⟩)⟩ | ⟨ch,rfl,hi,hk⟩)
  ·refine ⟨none,_,by have:=run_endLoop (P:=P) hl (by rw [hrs];simp);rw [hrd] at this;exact this,?_⟩;exact hdone _ xs _ (Nat.le_refl _) (hDp _ _ _ _ _ (by omega) hl ⟨_,rfl⟩ hD) (hIp _ _ _ _ _ (by omega) hl ⟨_,rfl⟩ hi) ((World.putObj_heap_other (by omega)).trans hk)
  ·refine ⟨some c,_,by have:=run_endLoop (P:=P) hl (by rw [hrs];simp);rw [hrd] at this;exact this,?_⟩;exact hstop _ c pre _ (Nat.le_refl _) (hSp _ _ _ _ _ (by omega) hl ⟨_,rfl⟩ hS) (hIxp _ _ _ _ _ _ (by omega) hl ⟨_,rfl⟩ hi) ((World.putObj_heap_other (by omega)).trans hk)
  ·exact hpan _ ch _ (Nat.le_refl _) hi hk
end
section
open Go.RowKit
attribute [local go_sem] aa ac ae ab
def aN (c:UInt8):Bool:=decide (97<=c.toNat/\c.toNat<=122)
def cg:Nat->List UInt8->Bool
 | _,[]=>true
 | i,c::r=>(aN c || (decide (0<i) && a9 c)) && cg (i+1) r
def dg (s:ByteArray):Bool:=cg 0 (sl s) && (decide (1<=s.size/\s.size<=12) && !ey (sl s))
theorem gu (w:World) (s:ByteArray) (p:Nat):Below w.heap.size w (w.iter s p):=(Below.refl _ w).alloc (Nat.le_refl _) _
theorem il (s:ByteArray) (w:World):Calls Tryz.prog 81 #[Zt s] w λ e w'=>e=.returned (.bool (dg s))/\Below w.heap.size w w':=by
 go_enter Tryz.func81,Tryz.ntmps81;go_wp2;go_loopw [3] (λ _ wr => ∃ pos:Nat,wr=w.iter s pos/\pos<=s.size/\cg 0 (sl s)=cg pos ((sl s).drop pos)) (λ _ wr=>s.size-wr.iterPos w.heap.size)
 case atStart=>exact ⟨0,rfl,by omega,by simp⟩
 case round =>
  obtain ⟨pos,rfl,hp,hn⟩:=hrel;by_cases hlt:pos<s.size
  ·have hnext:=λ ty=>run_next_any (P:=Tryz.prog) w s pos ty hlt
   have hd:(sl s).drop pos=s[pos]::(sl s).drop (pos+1):=List.drop_eq_getElem_cons (by rw [fE];exact hlt);rw [hd] at hn;obtain ⟨c,hc⟩:∃ c,s[pos]=c:=⟨_,rfl⟩
   by_cases hhi:128<=c.toNat
   ·have h1:=(decode_high s pos hlt (by rw [hc];exact hhi)).1;obtain ⟨⟨r,k⟩,hr⟩:∃ r,Utf8.decode s pos=r:=⟨_,rfl⟩
    rw [hr] at hnext h1;have HF:=aW (show cg 0 (sl s)=false by
     rw [hn,hc,cg];have e1:aN c=false:=by simp [aN];omega
     have e2:a9 c=false:=by simp [a9];omega
     rw [e1,e2];simp)
    clear hn hd hc hr;obtain ⟨x,hx⟩:∃ x:Int,(r:Int)=x:=⟨_,rfl⟩
    rw [hx] at hnext;have h2:128<=x:=by omega
    clear hx;go_wp2;go_ret;exact ⟨av (by rw [dg,HF.out];rfl),gu w s _⟩
   ·have h1:=decode_ascii s pos hlt (by rw [hc];omega);rw [hc] at h1;rw [h1] at hnext;obtain ⟨b1,hb1⟩:∃ b,aN c=b:=⟨_,rfl⟩
    obtain ⟨b2,hb2⟩:∃ b,a9 c=b:=⟨_,rfl⟩
    have hl:=λ w=>jy c.toNat w
    have hg:=λ w=>ko c.toNat w
    rw [show decide (97<=c.toNat/\c.toNat<=122)=b1 from hb1] at hl;rw [show decide (48<=c.toNat/\c.toNat<=57)=b2 from hb2] at hg;have HL:=aW hl;have HG:=aW hg;have hnf:cg 0 (sl s)=((b1 || (decide (0<pos) && b2)) && cg (pos+1) ((sl s).drop (pos+1))):=by rw [hn,hc,cg,hb1,hb2]
    have HF:=aW hnf;clear hn hd hc h1 hl hg hnf hb1 hb2;have hc128:c.toNat<128:=by omega
    clear hhi;obtain ⟨q,hq⟩:∃ q,c.toNat=q:=⟨_,rfl⟩
    rw [hq] at hnext hc128 HL HG;clear hq;cases b1
    ·by_cases h0:pos=0
     ·subst h0;go_wp2_with (first | (go_at_call 122;refine (HL.out _).mono ?_;rintro e w1 ⟨rfl,rfl⟩) | (go_at_call 123;refine (HG.out _).mono ?_;rintro e w1 ⟨rfl,rfl⟩));go_ret;exact ⟨av (by rw [dg,HF.out];rfl),gu w s _⟩
     ·have hp0:((pos:Int) == 0)=false:=by simp;omega
      cases b2
      ·go_wp2_with (first | (go_at_call 122;refine (HL.out _).mono ?_;rintro e w1 ⟨rfl,rfl⟩) | (go_at_call 123;refine (HG.out _).mono ?_;rintro e w1 ⟨rfl,rfl⟩));go_ret;exact ⟨av (by rw [dg,HF.out];simp),gu w s _⟩
      ·go_wp2_with (first | (go_at_call 122;refine (HL.out _).mono ?_;rintro e w1 ⟨rfl,rfl⟩) | (go_at_call 123;refine (HG.out _).mono ?_;rintro e w1 ⟨rfl,rfl⟩));go_roundw
       case rel=>exact ⟨pos+1,rfl,hlt,by rw [HF.out];simp;omega⟩
       case measure=>simp;omega
    ·go_wp2_with (first | (go_at_call 122;refine (HL.out _).mono ?_;rintro e w1 ⟨rfl,rfl⟩) | (go_at_call 123;refine (HG.out _).mono ?_;rintro e w1 ⟨rfl,rfl⟩));go_roundw
     case rel=>exact ⟨pos+1,rfl,hlt,by rw [HF.out];simp⟩
     case measure=>simp;omega
  ·obtain rfl:pos=s.size:=by omega
   have hnext:=λ ty=>run_next_end (P:=Tryz.prog) w s s.size ty hlt
   have hnf:cg 0 (sl s)=true:=by rw [hn,List.drop_eq_nil_of_le (by rw [fE];exact Nat.le_refl _),cg]
   have HF:=aW hnf;clear hn hnf;obtain ⟨b,hb⟩:∃ b,ey (sl s)=b:=⟨_,rfl⟩
   have hw:=λ w=>lK s w
   rw [hb] at hw;have HW:=aW hw;have HB:=aW hb;clear hw hb;go_wp2_with (go_at_call 124;refine (HW.out _).mono ?_;rintro e w1 ⟨rfl,hb1⟩)
   ·go_ret;refine ⟨av ?_,(gu w s _).trans (hb1.mono (by simp [World.iter]))⟩;have h1:1<=(s.size:Int):=by assumption
    have h2:(s.size:Int)<=12:=by assumption
    rw [dg,HF.out,HB.out,decide_eq_true (show 1<=s.size/\s.size<=12 by omega)];rfl
   ·go_ret;have h2:12<(s.size:Int):=by assumption
    exact ⟨av (by rw [dg,HF.out,decide_eq_false (show ¬ (1<=s.size/\s.size<=12) by omega)];rfl),gu w s _⟩
   ·go_ret;have h2:(s.size:Int)<1:=by assumption
    exact ⟨av (by rw [dg,HF.out,decide_eq_false (show ¬ (1<=s.size/\s.size<=12) by omega)];rfl),gu w s _⟩
def cB (A:Option Addr) (n cap:Nat) (p why:Int):Array Value:=#[Zi Zq p,Zi Zq why,Zs A n cap]
def VB (w:World) (g:Nat) (A:Option Addr) (cap:Nat) (l:List UInt8) (p why:Int):Prop:=Blk w g 113 (cB A l.length cap p why)/\Rd w A (am l)
def aP (w:World) (g:Nat) (A:Option Addr) (cap:Nat) (l:List UInt8) (p why:Int) (w':World):Prop:=VB w' g A cap l p why/\w.grownBy w' (some g)
section
variable {w w':World} {g:Nat} {A:Option Addr} {cap:Nat} {l:List UInt8} {p why p' why':Int}
theorem oD {m:Nat}:∀ (i:Nat) (c:Int),(cB A m cap p why)[i]? = some (Value.int .u8 c)->False:=by
 intro i c h;unfold cB at h
 match i with
 | 0 | 1 | 2=>simp at h
 | i+3=>simp at h
theorem VB.drewN (h:VB w g A cap l p why) (k:Nat):VB (w.drewN k) g A cap l p why:=⟨h.1.drewN k,h.2.drewN k⟩
theorem VB.keep (h:VB w g A cap l p why) (hb:Below w.heap.size w w'):VB w' g A cap l p why:=⟨h.1.keep hb,h.2.below hb⟩
theorem VB.set0 (h:VB w g A cap l p why) (q:Int):VB (w.setCell ⟨g,0,none⟩ (Zi Zq q)) g A cap l q why :=
 ⟨by have:=h.1.set_ 0 (Zi Zq q);simpa [cB] using this,h.2.setCell (h.2.ne_blk h.1 oD) _ _⟩
theorem VB.set1 (h:VB w g A cap l p why) (q:Int):VB (w.setCell ⟨g,1,none⟩ (Zi Zq q)) g A cap l p q :=
 ⟨by have:=h.1.set_ 1 (Zi Zq q);simpa [cB] using this,h.2.setCell (h.2.ne_blk h.1 oD) _ _⟩
theorem aP.refl (h:VB w g A cap l p why):aP w g A cap l p why w:=⟨h,ec _ _⟩
theorem aP.trans {w'':World} (h:aP w g A cap l p why w') (k:aP w' g A cap l p' why' w''):aP w g A cap l p' why' w'':=⟨k.1,af h.2 k.2⟩
theorem aP.drewN (h:aP w g A cap l p why w') (k:Nat):aP w g A cap l p why (w'.drewN k):=⟨h.1.drewN k,gD h.2 k⟩
theorem aP.keep {w'':World} (h:aP w g A cap l p why w') (hb:Below w'.heap.size w' w''):aP w g A cap l p why w'' :=
 ⟨h.1.keep hb,af h.2 ⟨hb.os,hb.tape,hb.output,hb.size,λ i hi _=>hb.block i hi⟩⟩
theorem aP.set0 (h:aP w g A cap l p why w') (q:Int):aP w g A cap l q why (w'.setCell ⟨g,0,none⟩ (Zi Zq q)):=⟨h.1.set0 q,bC h.2 _ _⟩
theorem aP.set1 (h:aP w g A cap l p why w') (q:Int):aP w g A cap l p q (w'.setCell ⟨g,1,none⟩ (Zi Zq q)):=⟨h.1.set1 q,bC h.2 _ _⟩
theorem aP.alloc (h:aP w g A cap l p why w') (o:Obj):aP w g A cap l p why (w'.alloc o):=h.keep ((Below.refl _ _).alloc (Nat.le_refl _) _)
theorem aP.new (h:aP w g A cap l p why w') {k:Nat} {t:TypeId} {cs:Array Value} (hb:Blk w' k t cs) (hcs:∀ (i:Nat) (c:Int),cs[i]? = some (Value.int .u8 c)->False) (hk:w.heap.size<=k) (hg:g<w.heap.size) (i:Nat) (u:Value) :
  aP w g A cap l p why (w'.setCell ⟨k,i,none⟩ u) :=
 ⟨⟨h.1.1.far (p:=⟨k,i,none⟩) (by simp;omega) u,h.1.2.setCell (h.1.2.ne_blk hb hcs) i u⟩,dG h.2 _ _ hk⟩
end
def uH (k:Int) (p:Int) (s:ByteArray) (n:Int):Value:=.agg #[Zi Zq k,Zi Zq p,Zt s,Zi Zq n]
def ia:Value:=.agg #[Zi Zq 0,Zi Zq 0,Zt ⟨#[]⟩,Zi Zq 0]
theorem gB (w:World) (g:Nat) (A:Option Addr) (cap:Nat) (l:List UInt8) (p why q e:Int) (hV:VB w g A cap l p why) :
  Calls Tryz.prog 167 #[Zp (some ⟨g,0,none⟩),Zi Zq q,Zi Zq e] w λ x w'=>x=.returned ia/\aP w g A cap l q e w':=by
 obtain ⟨hc,hf,hlt⟩:=hV.1.rules;have HV:=aW hV;clear hV;unfold cB at hc;go_enter Tryz.func167,Tryz.ntmps167;go_wp2;go_returns;exact ⟨rfl,(((aP.refl HV.out).set0 q).set1 e).alloc _⟩
theorem VB.byte {w:World} {g:Nat} {A:Option Addr} {cap:Nat} {l:List UInt8} {p why:Int} (h:VB w g A cap l p why) {k:Nat} {c:UInt8} (hc:l[k]? = some c) :
  ∃ b o,A=some ⟨b,o,none⟩/\b<w.heap.size/\w.cell? ⟨b,o+k,none⟩=some (Zi .u8 c.toNat):=by
 obtain ⟨hlt,e⟩:=List.getElem?_eq_some_iff.1 hc;obtain ⟨b,o,rfl,hb,hx⟩:=h.2 (by intro e;have h3:=aB l;rw [e,List.length_nil] at h3;omega);exact ⟨b,o,rfl,hb,by rw [hx k (by rw [aB];exact hlt)];simp [am,e]⟩
theorem qQ (w:World) (g:Nat) (A:Option Addr) (cap:Nat) (l:List UInt8) (p:Nat) (why:Int) (hV:VB w g A cap l p why) (hp:p<=l.length) (hcap:l.length<=cap) (hlen:l.length<=4194304) :
  Calls Tryz.prog 135 #[Zp (some ⟨g,0,none⟩)] w λ e w'=>e=.returned (.tuple #[])/\aP w g A cap l (cq l p) why w':=by
 have HV:=aW hV;clear hV;go_enter Tryz.func135,Tryz.ntmps135;go_wp2;go_loopg [24] (l.length-p) (λ gk _ wr => ∃ k:Nat,k<=l.length/\gk=l.length-k/\cq l p=cq l k/\aP w g A cap l k why wr)
 case atStart=>exact ⟨p,hp,rfl,rfl,aP.refl HV.out⟩
 case round =>
  obtain ⟨k,hk,hgk,hs,hst⟩:=hrel;obtain ⟨hc,hf,hlt⟩:=hst.1.1.rules;unfold cB at hc;have HS:=aW hs;have HG:=aW hgk;clear hs hgk;by_cases hkl:k<l.length
  ·obtain ⟨c,hcc⟩:∃ c,l[k]? = some c:=⟨_,List.getElem?_eq_getElem hkl⟩
   obtain ⟨b,o,rfl,hb,hx⟩:=hst.1.byte hcc;have HC:=aW hcc;clear hcc;cases hbk:du c with
   |true =>
    have HN:=aW (mU HC.out hbk);unfold du at hbk;have hq:c.toNat=9∨c.toNat=10∨c.toNat=13∨c.toNat=32:=by simpa using hbk
    clear hbk;rcases hq with hq | hq | hq | hq
    all_goals
     rw [hq] at hx;clear hq;go_wp2;go_quiet (fail);go_wp2;go_quiet (fail);go_wp2;go_roundg (l.length-(k+1))
     case measure=>rw [HG.out];omega
     case rel=>exact ⟨k+1,hkl,rfl,HS.out.trans HN.out,(hst.drewN _).set0 _⟩
   |false =>
    have HN:=aW (jF HC.out hbk);unfold du at hbk;have hq:¬ (c.toNat=9∨c.toNat=10∨c.toNat=13∨c.toNat=32):=by simpa using hbk
    clear hbk;have q1:((c.toNat:Int) == 9)=false:=by simp;omega
    have q2:((c.toNat:Int) == 10)=false:=by simp;omega
    have q3:((c.toNat:Int) == 13)=false:=by simp;omega
    have q4:((c.toNat:Int) == 32)=false:=by simp;omega
    clear hq;go_wp2;go_quiet (fail);go_wp2;go_quiet (fail);go_wp2;refine bodyPost_ret (results_none rfl _ _ _) rfl ⟨rfl,?_⟩;rw [HS.out,HN.out];exact hst.drewN _
  ·have HN:=aW (uC (l:=l) (p:=k) (by omega));obtain rfl:k=l.length:=by omega
   clear hkl;go_wp2;go_quiet (fail);go_wp2;go_end0;refine ⟨rfl,?_⟩;rw [HS.out,HN.out];exact hst.drewN _
abbrev oO:=Sum (Int × List UInt8 × Int × Nat) (Int × Int)
def fK (r:oO) (p:Nat) (w:World) (g:Nat) (A:Option Addr) (cap:Nat) (l:List UInt8) (e:Ending) (w':World):Prop :=
 match r with
 | .inl (k,t,n,m)=>e=.returned (uH k p ⟨t.toArray⟩ n)/\aP w g A cap l m 0 w'
 | .inr (q,er)=>e=.returned ia/\aP w g A cap l q er w'
def df (c:UInt8):Bool:=aN c || a9 c
def fF (l:List UInt8) (p:Nat):oO :=
 let t:=(l.drop p).takeWhile df
 if ey t then .inl (2,t,0,p+t.length) else if dg ⟨t.toArray⟩ then .inl (1,t,0,p+t.length) else .inr (p,320)
theorem pg {l:List UInt8} {p:Nat} {c:UInt8} (h:l[p]? = some c) (hb:df c=true):(l.drop p).takeWhile df=c::(l.drop (p+1)).takeWhile df:=by
 obtain ⟨hlt,e⟩:=List.getElem?_eq_some_iff.1 h;rw [List.drop_eq_getElem_cons hlt,e,List.takeWhile_cons,hb];rfl
theorem yf {l:List UInt8} {p:Nat} {c:UInt8} (h:l[p]? = some c) (hb:df c=false):(l.drop p).takeWhile df=[]:=by
 obtain ⟨hlt,e⟩:=List.getElem?_eq_some_iff.1 h;rw [List.drop_eq_getElem_cons hlt,e,List.takeWhile_cons,hb];rfl
theorem zL {l:List UInt8} {p:Nat} (h:l.length<=p):(l.drop p).takeWhile df=[]:=by rw [List.drop_eq_nil_of_le h];rfl
theorem oz {l:List UInt8} {p k:Nat} {c:UInt8} (h:(l.drop p).takeWhile df=(l.drop p).take (k-p)++(l.drop k).takeWhile df) (hc:l[k]? = some c)
  (hs:(l.drop k).takeWhile df=c::(l.drop (k+1)).takeWhile df) (hpk:p<=k):(l.drop p).takeWhile df=(l.drop p).take (k+1-p)++(l.drop (k+1)).takeWhile df:=by
 rw [h,hs,show k+1-p=(k-p)+1 from by omega,List.take_add_one,List.getElem?_drop,show p+(k-p)=k from by omega,hc];simp
theorem sG {a b d:Int} {s:ByteArray}:∀ (i:Nat) (c:Int),(#[Value.int .i64 a,Zi Zq b,Zt s,Zi Zq d]:Array Value)[i]? = some (Value.int .u8 c)->False:=by
 intro i c h
 match i with
 | 0 | 1 | 2 | 3=>simp at h
 | i+4=>simp at h
theorem Blk.put4 {W:World} {k:Nat} {t:TypeId} {z0 z1 z2 z3:Value} (hb:Blk W k t #[z0,z1,z2,z3]) (a b s d:Value) :
  Blk ((((W.setCell ⟨k,0,none⟩ a).setCell ⟨k,1,none⟩ b).setCell ⟨k,2,none⟩ s).setCell ⟨k,3,none⟩ d) k t #[a,b,s,d]:=by
 have:=(((hb.set_ 0 a).set_ 1 b).set_ 2 s).set_ 3 d;simpa using this
theorem aP.put4 {w w':World} {g:Nat} {A:Option Addr} {cap:Nat} {l:List UInt8} {p why:Int} (h:aP w g A cap l p why w') {k:Nat} {t:TypeId} {a b d:Int} {s:ByteArray} (hb:Blk w' k t #[Zi Zq a,Zi Zq b,Zt s,Zi Zq d]) (hk:w.heap.size<=k) (hg:g<w.heap.size)
  (a' b':Value) (s' d':Value):aP w g A cap l p why ((((w'.setCell ⟨k,0,none⟩ a').setCell ⟨k,1,none⟩ b').setCell ⟨k,2,none⟩ s').setCell ⟨k,3,none⟩ d'):=by
 have hne:=h.1.2.ne_blk hb sG;have hgk:g≠k:=by omega
 refine ⟨⟨(((h.1.1.far (p:=⟨k,0,none⟩) hgk a').far (p:=⟨k,1,none⟩) hgk b').far (p:=⟨k,2,none⟩) hgk s').far (p:=⟨k,3,none⟩) hgk d',?_⟩,dG (dG (dG (dG h.2 _ _ hk) _ _ hk) _ _ hk) _ _ hk⟩;exact (((h.1.2.setCell hne 0 a').setCell hne 1 b').setCell hne 2 s').setCell hne 3 d'
theorem py {w:World} {b o:Nat} {l:List UInt8} {p n:Nat} (h:Rd w (some ⟨b,o,none⟩) (am l)):Rd w (some ⟨b,o+p,none⟩) (am ((l.drop p).take n)):=by
 have h1:=(h.drop p).take n;have e:((some (⟨b,o,none⟩:Addr)).map λ a=>a.add p)=some ⟨b,o+p,none⟩:=by simp [Addr.add]
 rw [e] at h1;simpa [am,List.map_drop,List.map_take] using h1
theorem j5 {w:World} {b o cap p k:Nat} {l:List UInt8} (hpk:p<=k) (hk:k<=l.length) (hcap:l.length<=cap) (h:Rd w (some ⟨b,o+p,none⟩) (am ((l.drop p).take (k-p)))) :
  (convert 67 9 (Zs (some ⟨b,o+p,none⟩) (k-p) (cap-p))).run Tryz.prog w=.ok (Zt ⟨((l.drop p).take (k-p)).toArray⟩) w:=by
 have e:((l.drop p).take (k-p)).length=k-p:=by simp;omega
 have h1:BS w (Zs (some ⟨b,o+p,none⟩) (k-p) (cap-p)) ((l.drop p).take (k-p)):=⟨_,_,by rw [e],by omega,h⟩
 exact h1.conv
theorem wk (w:World) (g:Nat) (A:Option Addr) (cap:Nat) (l:List UInt8) (p:Nat) (hV:VB w g A cap l p 0) (hp:p<l.length) (hcap:l.length<=cap) (hlen:l.length<=4194304) :
  Calls Tryz.prog 128 #[Zp (some ⟨g,0,none⟩)] w (fK (fF l p) p w g A cap l):=by
 obtain ⟨hc,hf,hlt⟩:=hV.1.rules;have hpc:p<cap:=by omega
 have HV:=aW hV;clear hV;unfold cB at hc;go_enter Tryz.func128,Tryz.ntmps128;go_wp2;go_loopg [] (l.length-p) (λ gk wr => ∃ k:Nat,p<=k/\k<=l.length/\gk=l.length-k/\(l.drop p).takeWhile df=(l.drop p).take (k-p)++(l.drop k).takeWhile df/\aP w g A cap l k 0 wr/\Blk wr w.heap.size 86 #[Zi Zq 0,Zi Zq 0,Zt ⟨#[]⟩,Zi Zq 0])
 case atStart=>exact ⟨p,Nat.le_refl _,Nat.le_of_lt hp,rfl,by simp,(aP.refl HV.out).alloc _,Blk.new _ _ _⟩
 case round =>
  obtain ⟨k,hpk,hk,hgk,hs,hst,hbt⟩:=hrel;clear hc hf hlt;obtain ⟨hc,hf,hlt⟩:=hst.1.1.rules;unfold cB at hc;have HS:=aW hs;have HG:=aW hgk;clear hs hgk;by_cases hkl:k<l.length
  ·obtain ⟨c,hcc⟩:∃ c,l[k]? = some c:=⟨_,List.getElem?_eq_getElem hkl⟩
   obtain ⟨b,o,rfl,hb,hx⟩:=hst.1.byte hcc;obtain ⟨b1,hb1⟩:∃ b,aN c=b:=⟨_,rfl⟩
   obtain ⟨b2,hb2⟩:∃ b,a9 c=b:=⟨_,rfl⟩
   have hl:=λ w=>jy c.toNat w
   have hg:=λ w=>ko c.toNat w
   rw [show decide (97<=c.toNat/\c.toNat<=122)=b1 from hb1] at hl;rw [show decide (48<=c.toNat/\c.toNat<=57)=b2 from hb2] at hg;have HL:=aW hl;have HD:=aW hg;have HB:=aW (show df c=(b1 || b2) by rw [df,hb1,hb2]);have HC:=aW hcc;clear hl hg hb1 hb2 hcc;cases b1
   ·cases b2
    ·have HE:=aW (show (l.drop p).takeWhile df=(l.drop p).take (k-p) by rw [HS.out,yf HC.out HB.out,List.append_nil]);go_wp2;go_quiet (first | (go_at_call 122;refine Calls.quiet_of_same ((HL.out _).mono λ e w' h=>⟨h.1,h.2.symm⟩)) | (go_at_call 123;refine Calls.quiet_of_same ((HD.out _).mono λ e w' h=>⟨h.1,h.2.symm⟩)));go_wp2;have hq:∀ w',Rd w' (some ⟨b,o+p,none⟩) (am ((l.drop p).take (k-p)))->(convert 67 9 (Zs (some ⟨b,o+p,none⟩) (k-p) (cap-p))).run Tryz.prog w'=.ok (Zt ⟨((l.drop p).take (k-p)).toArray⟩) w':=λ w' h=>j5 hpk hk hcap h
     have hka:∀ (w':World) (o':Obj),Rd w' (some ⟨b,o+p,none⟩) (am ((l.drop p).take (k-p)))->Rd (w'.alloc o') (some ⟨b,o+p,none⟩) (am ((l.drop p).take (k-p))):=λ w' o' h=>h.alloc o'
     have hs0:Rd wr (some ⟨b,o+p,none⟩) (am ((l.drop p).take (k-p))):=py hst.1.2;obtain ⟨RQ,hRQ⟩:∃ RQ:World->Prop,RQ=λ w'=>Rd w' (some ⟨b,o+p,none⟩) (am ((l.drop p).take (k-p))):=⟨_,rfl⟩
     have hq':∀ w',RQ w'->(convert 67 9 (Zs (some ⟨b,o+p,none⟩) (k-p) (cap-p))).run Tryz.prog w'=.ok (Zt ⟨((l.drop p).take (k-p)).toArray⟩) w':=by rw [hRQ];exact hq
     have hka':∀ (w':World) (o':Obj),RQ w'->RQ (w'.alloc o'):=by rw [hRQ];exact hka
     have hkd':∀ (w':World),RQ w'->RQ w'.drew:=by rw [hRQ];exact λ w' h=>h
     have hs1:∀ j,RQ (wr.drewN j):=by rw [hRQ];exact λ j=>hs0.drewN j
     clear hq hka hs0;have HRQ:=aW hRQ;clear hRQ;obtain ⟨wq,hwq⟩:∃ wq,wr.drewN nq=wq:=⟨_,rfl⟩
     have hc0:wq.cell? ⟨g,0,none⟩=some (Zi Zq (k:Int)):=by rw [← hwq];exact hc 0
     have hc2:wq.cell? ⟨g,2,none⟩=some (Zs (some ⟨b,o,none⟩) l.length cap):=by rw [← hwq];exact hc 2
     have hlq:g<wq.heap.size:=by rw [← hwq];exact hlt
     have hkc:k<=cap:=by omega
     have hpc':¬ cap=p:=by omega
     have hs2:RQ wq:=by rw [← hwq];exact hs1 nq
     rw [hwq];go_region_held3 (λ w'=>w'.cell? ⟨g,0,none⟩=some (Zi Zq (k:Int))/\w'.cell? ⟨g,2,none⟩=some (Zs (some ⟨b,o,none⟩) l.length cap)/\RQ w') (go_keep) ((fail))
     all_goals
      obtain ⟨Wx,hWx⟩:∃ Wx,(wq.alloc (.cells #[Zi Zq 1,Zi Zq p,Zt ⟨((l.drop p).take (k-p)).toArray⟩,Zi Zq 0] 86)).drew=Wx:=⟨_,rfl⟩
      have hT:Blk Wx wq.heap.size 86 #[Zi Zq 1,Zi Zq p,Zt ⟨((l.drop p).take (k-p)).toArray⟩,Zi Zq 0]:=by rw [← hWx];exact Blk.new wq _ _
      have hR:Blk Wx w.heap.size 86 #[Zi Zq 0,Zi Zq 0,Zt ⟨#[]⟩,Zi Zq 0]:=by rw [← hWx,← hwq];exact (hbt.drewN nq).alloc _
      have hst2:aP w g (some ⟨b,o,none⟩) cap l k 0 Wx:=by rw [← hWx,← hwq];exact ((hst.drewN nq).alloc _).drewN 1
      have hn0:w.heap.size<wq.heap.size:=by rw [← hwq];exact hbt.lt
      rw [hWx];obtain ⟨N,hN⟩:∃ N,wq.heap.size=N:=⟨_,rfl⟩
      rw [hN] at hT hn0 ⊢;clear hWx hN hc0 hc2 hlq hs2 hs1 hq' hka' hkd' hwq hx hb hc hf hlt hst hbt;obtain ⟨t,ht⟩:∃ t,(l.drop p).take (k-p)=t:=⟨_,rfl⟩
      have htl:k=p+t.length:=by rw [← ht];simp;omega
      rw [ht] at hT;have hE2:=HE.out;rw [ht] at hE2;have HE2:=aW hE2;have HTL:=aW htl;clear hE2 ht htl;have hspec:fF l p=if ey t then .inl (2,t,0,p+t.length) else if dg ⟨t.toArray⟩ then .inl (1,t,0,p+t.length) else .inr (p,320):=by
       unfold fF;rw [HE2.out]
      have HSP:=aW hspec;obtain ⟨b1,hb1⟩:∃ b,ey t=b:=⟨_,rfl⟩
      obtain ⟨b2,hb2⟩:∃ b,dg ⟨t.toArray⟩=b:=⟨_,rfl⟩
      have hw1:=λ w=>lK ⟨t.toArray⟩ w
      rw [oq,hb1] at hw1;have hw2:=λ w=>il ⟨t.toArray⟩ w
      rw [hb2] at hw2;have HW1:=aW hw1;have HW2:=aW hw2;rw [hb1,hb2] at hspec;have HSQ:=aW hspec;clear hspec hb1 hb2 hw1 hw2;obtain ⟨ct,ft,lt⟩:=hT.rules;obtain ⟨cr,fr,lr⟩:=hR.rules;have hgw:g<w.heap.size:=HV.out.1.lt;cases b1
      ·cases b2
       ·go_wp2_with (first | (go_at_call 124;refine (HW1.out _).mono ?_;rintro e w1 ⟨rfl,hb1⟩;have hT1:=hT.keep hb1;have hR1:=hR.keep hb1;have hst3:=hst2.keep hb1;obtain ⟨ct1,ft1,lt1⟩:=hT1.rules;obtain ⟨cr1,fr1,lr1⟩:=hR1.rules) | (go_at_call 81;refine (HW2.out _).mono ?_;rintro e w2 ⟨rfl,hb2⟩;have hT2:=hT1.keep hb2;have hR2:=hR1.keep hb2;have hst4:=hst3.keep hb2;obtain ⟨ct2,ft2,lt2⟩:=hT2.rules;obtain ⟨cr2,fr2,lr2⟩:=hR2.rules) | (go_at_call 167;refine (gB _ g _ cap l _ _ _ _ hst4.1).mono ?_;rintro e w3 ⟨rfl,hst5⟩;have hR3:=hR2.grown hst5.2 (by have:=HV.out.1.lt;simp;omega);obtain ⟨cr3,fr3,lr3⟩:=hR3.rules;unfold ia));obtain ⟨cf,_,_⟩:=(Blk.put4 hR3 (Zi Zq 0) (Zi Zq 0) (Zt ⟨#[]⟩) (Zi Zq 0)).rules;refine bodyPost_ret (v:=.agg #[(Zi Zq 0),(Zi Zq 0),(Zt ⟨#[]⟩),(Zi Zq 0)]) (by simp only [results,Tryz.results128];go_simp) rfl ?_;rw [HSQ.out];exact ⟨rfl,(hst4.trans hst5).put4 hR3 (Nat.le_refl _) hgw _ _ _ _⟩
       ·go_wp2_with (first | (go_at_call 124;refine (HW1.out _).mono ?_;rintro e w1 ⟨rfl,hb1⟩;have hT1:=hT.keep hb1;have hR1:=hR.keep hb1;have hst3:=hst2.keep hb1;obtain ⟨ct1,ft1,lt1⟩:=hT1.rules;obtain ⟨cr1,fr1,lr1⟩:=hR1.rules) | (go_at_call 81;refine (HW2.out _).mono ?_;rintro e w2 ⟨rfl,hb2⟩;have hT2:=hT1.keep hb2;have hR2:=hR1.keep hb2;have hst4:=hst3.keep hb2;obtain ⟨ct2,ft2,lt2⟩:=hT2.rules;obtain ⟨cr2,fr2,lr2⟩:=hR2.rules));obtain ⟨cf,_,_⟩:=(Blk.put4 hR2 (Zi Zq 1) (Zi Zq p) (Zt ⟨t.toArray⟩) (Zi Zq 0)).rules;refine bodyPost_ret (v:=.agg #[(Zi Zq 1),(Zi Zq p),(Zt ⟨t.toArray⟩),(Zi Zq 0)]) (by simp only [results,Tryz.results128];go_simp) rfl ?_;rw [HSQ.out];exact ⟨rfl,by have:=hst4.put4 hR2 (Nat.le_refl _) hgw (Zi Zq 1) (Zi Zq p) (Zt ⟨t.toArray⟩) (Zi Zq 0);rw [HTL.out] at this;exact this⟩
      ·go_wp2_with (go_at_call 124;refine (HW1.out _).mono ?_;rintro e w1 ⟨rfl,hb1⟩;have hT1:=hT.keep hb1;have hR1:=hR.keep hb1;have hst3:=hst2.keep hb1;obtain ⟨ct1,ft1,lt1⟩:=hT1.rules;obtain ⟨cr1,fr1,lr1⟩:=hR1.rules);obtain ⟨cf,_,_⟩:=(Blk.put4 (hR1.far (p:=⟨N,0,none⟩) (show w.heap.size≠N by omega) (Zi Zq 2)) (Zi Zq 2) (Zi Zq p) (Zt ⟨t.toArray⟩) (Zi Zq 0)).rules;refine bodyPost_ret (v:=.agg #[(Zi Zq 2),(Zi Zq p),(Zt ⟨t.toArray⟩),(Zi Zq 0)]) (by simp only [results,Tryz.results128];go_simp) rfl ?_;rw [HSQ.out];exact ⟨rfl,by have:=(hst3.new hT1 sG (Nat.le_of_lt hn0) hgw 0 (Zi Zq 2)).put4 (hR1.far (p:=⟨N,0,none⟩) (by simp;omega) _) (Nat.le_refl _) hgw (Zi Zq 2) (Zi Zq p) (Zt ⟨t.toArray⟩) (Zi Zq 0);rw [HTL.out] at this;exact this⟩
    ·have HSt:=aW (pg HC.out (HB.out));go_wp2;go_quiet (first | (go_at_call 122;refine Calls.quiet_of_same ((HL.out _).mono λ e w' h=>⟨h.1,h.2.symm⟩)) | (go_at_call 123;refine Calls.quiet_of_same ((HD.out _).mono λ e w' h=>⟨h.1,h.2.symm⟩)));go_wp2;go_roundg (l.length-(k+1))
     case measure=>rw [HG.out];omega
     case rel=>exact ⟨k+1,by omega,hkl,rfl,oz HS.out HC.out HSt.out hpk,(hst.drewN _).set0 _,hbt.far (p:=⟨g,0,none⟩) (by have:=HV.out.1.lt;simp;omega) _⟩
   ·skip
    ·have HSt:=aW (pg HC.out (HB.out));go_wp2;go_quiet (first | (go_at_call 122;refine Calls.quiet_of_same ((HL.out _).mono λ e w' h=>⟨h.1,h.2.symm⟩)) | (go_at_call 123;refine Calls.quiet_of_same ((HD.out _).mono λ e w' h=>⟨h.1,h.2.symm⟩)));go_wp2;go_roundg (l.length-(k+1))
     case measure=>rw [HG.out];omega
     case rel=>exact ⟨k+1,by omega,hkl,rfl,oz HS.out HC.out HSt.out hpk,(hst.drewN _).set0 _,hbt.far (p:=⟨g,0,none⟩) (by have:=HV.out.1.lt;simp;omega) _⟩
  ·obtain rfl:k=l.length:=by omega
   obtain ⟨c,hcc⟩:∃ c,l[p]? = some c:=⟨_,List.getElem?_eq_getElem hp⟩
   obtain ⟨b,o,rfl,hb,hx⟩:=hst.1.byte hcc;have HE:=aW (show (l.drop p).takeWhile df=(l.drop p).take (l.length-p) by rw [HS.out,zL (Nat.le_refl _),List.append_nil]);clear hcc hkl;go_wp2;go_quiet (fail);go_wp2;have hq:∀ w',Rd w' (some ⟨b,o+p,none⟩) (am ((l.drop p).take (l.length-p)))->(convert 67 9 (Zs (some ⟨b,o+p,none⟩) (l.length-p) (cap-p))).run Tryz.prog w'=.ok (Zt ⟨((l.drop p).take (l.length-p)).toArray⟩) w':=λ w' h=>j5 hpk hk hcap h
   have hka:∀ (w':World) (o':Obj),Rd w' (some ⟨b,o+p,none⟩) (am ((l.drop p).take (l.length-p)))->Rd (w'.alloc o') (some ⟨b,o+p,none⟩) (am ((l.drop p).take (l.length-p))):=λ w' o' h=>h.alloc o'
   have hs0:Rd wr (some ⟨b,o+p,none⟩) (am ((l.drop p).take (l.length-p))):=py hst.1.2;obtain ⟨RQ,hRQ⟩:∃ RQ:World->Prop,RQ=λ w'=>Rd w' (some ⟨b,o+p,none⟩) (am ((l.drop p).take (l.length-p))):=⟨_,rfl⟩
   have hq':∀ w',RQ w'->(convert 67 9 (Zs (some ⟨b,o+p,none⟩) (l.length-p) (cap-p))).run Tryz.prog w'=.ok (Zt ⟨((l.drop p).take (l.length-p)).toArray⟩) w':=by rw [hRQ];exact hq
   have hka':∀ (w':World) (o':Obj),RQ w'->RQ (w'.alloc o'):=by rw [hRQ];exact hka
   have hkd':∀ (w':World),RQ w'->RQ w'.drew:=by rw [hRQ];exact λ w' h=>h
   have hs1:∀ j,RQ (wr.drewN j):=by rw [hRQ];exact λ j=>hs0.drewN j
   clear hq hka hs0;have HRQ:=aW hRQ;clear hRQ;obtain ⟨wq,hwq⟩:∃ wq,wr.drewN nq=wq:=⟨_,rfl⟩
   have hc0:wq.cell? ⟨g,0,none⟩=some (Zi Zq (l.length:Int)):=by rw [← hwq];exact hc 0
   have hc2:wq.cell? ⟨g,2,none⟩=some (Zs (some ⟨b,o,none⟩) l.length cap):=by rw [← hwq];exact hc 2
   have hlq:g<wq.heap.size:=by rw [← hwq];exact hlt
   have hkc:l.length<=cap:=by omega
   have hpc':¬ cap=p:=by omega
   have hs2:RQ wq:=by rw [← hwq];exact hs1 nq
   rw [hwq];go_region_held3 (λ w'=>w'.cell? ⟨g,0,none⟩=some (Zi Zq (l.length:Int))/\w'.cell? ⟨g,2,none⟩=some (Zs (some ⟨b,o,none⟩) l.length cap)/\RQ w') (go_keep) ((fail))
   all_goals
    obtain ⟨Wx,hWx⟩:∃ Wx,(wq.alloc (.cells #[Zi Zq 1,Zi Zq p,Zt ⟨((l.drop p).take (l.length-p)).toArray⟩,Zi Zq 0] 86)).drew=Wx:=⟨_,rfl⟩
    have hT:Blk Wx wq.heap.size 86 #[Zi Zq 1,Zi Zq p,Zt ⟨((l.drop p).take (l.length-p)).toArray⟩,Zi Zq 0]:=by rw [← hWx];exact Blk.new wq _ _
    have hR:Blk Wx w.heap.size 86 #[Zi Zq 0,Zi Zq 0,Zt ⟨#[]⟩,Zi Zq 0]:=by rw [← hWx,← hwq];exact (hbt.drewN nq).alloc _
    have hst2:aP w g (some ⟨b,o,none⟩) cap l l.length 0 Wx:=by rw [← hWx,← hwq];exact ((hst.drewN nq).alloc _).drewN 1
    have hn0:w.heap.size<wq.heap.size:=by rw [← hwq];exact hbt.lt
    rw [hWx];obtain ⟨N,hN⟩:∃ N,wq.heap.size=N:=⟨_,rfl⟩
    rw [hN] at hT hn0 ⊢;clear hWx hN hc0 hc2 hlq hs2 hs1 hq' hka' hkd' hwq hx hb hc hf hlt hst hbt;obtain ⟨t,ht⟩:∃ t,(l.drop p).take (l.length-p)=t:=⟨_,rfl⟩
    have htl:l.length=p+t.length:=by rw [← ht];simp;omega
    rw [ht] at hT;have hE2:=HE.out;rw [ht] at hE2;have HE2:=aW hE2;have HTL:=aW htl;clear hE2 ht htl;have hspec:fF l p=if ey t then .inl (2,t,0,p+t.length) else if dg ⟨t.toArray⟩ then .inl (1,t,0,p+t.length) else .inr (p,320):=by
     unfold fF;rw [HE2.out]
    have HSP:=aW hspec;obtain ⟨b1,hb1⟩:∃ b,ey t=b:=⟨_,rfl⟩
    obtain ⟨b2,hb2⟩:∃ b,dg ⟨t.toArray⟩=b:=⟨_,rfl⟩
    have hw1:=λ w=>lK ⟨t.toArray⟩ w
    rw [oq,hb1] at hw1;have hw2:=λ w=>il ⟨t.toArray⟩ w
    rw [hb2] at hw2;have HW1:=aW hw1;have HW2:=aW hw2;rw [hb1,hb2] at hspec;have HSQ:=aW hspec;clear hspec hb1 hb2 hw1 hw2;obtain ⟨ct,ft,lt⟩:=hT.rules;obtain ⟨cr,fr,lr⟩:=hR.rules;have hgw:g<w.heap.size:=HV.out.1.lt;cases b1
    ·cases b2
     ·go_wp2_with (first | (go_at_call 124;refine (HW1.out _).mono ?_;rintro e w1 ⟨rfl,hb1⟩;have hT1:=hT.keep hb1;have hR1:=hR.keep hb1;have hst3:=hst2.keep hb1;obtain ⟨ct1,ft1,lt1⟩:=hT1.rules;obtain ⟨cr1,fr1,lr1⟩:=hR1.rules) | (go_at_call 81;refine (HW2.out _).mono ?_;rintro e w2 ⟨rfl,hb2⟩;have hT2:=hT1.keep hb2;have hR2:=hR1.keep hb2;have hst4:=hst3.keep hb2;obtain ⟨ct2,ft2,lt2⟩:=hT2.rules;obtain ⟨cr2,fr2,lr2⟩:=hR2.rules) | (go_at_call 167;refine (gB _ g _ cap l _ _ _ _ hst4.1).mono ?_;rintro e w3 ⟨rfl,hst5⟩;have hR3:=hR2.grown hst5.2 (by have:=HV.out.1.lt;simp;omega);obtain ⟨cr3,fr3,lr3⟩:=hR3.rules;unfold ia));obtain ⟨cf,_,_⟩:=(Blk.put4 hR3 (Zi Zq 0) (Zi Zq 0) (Zt ⟨#[]⟩) (Zi Zq 0)).rules;refine bodyPost_ret (v:=.agg #[(Zi Zq 0),(Zi Zq 0),(Zt ⟨#[]⟩),(Zi Zq 0)]) (by simp only [results,Tryz.results128];go_simp) rfl ?_;rw [HSQ.out];exact ⟨rfl,(hst4.trans hst5).put4 hR3 (Nat.le_refl _) hgw _ _ _ _⟩
     ·go_wp2_with (first | (go_at_call 124;refine (HW1.out _).mono ?_;rintro e w1 ⟨rfl,hb1⟩;have hT1:=hT.keep hb1;have hR1:=hR.keep hb1;have hst3:=hst2.keep hb1;obtain ⟨ct1,ft1,lt1⟩:=hT1.rules;obtain ⟨cr1,fr1,lr1⟩:=hR1.rules) | (go_at_call 81;refine (HW2.out _).mono ?_;rintro e w2 ⟨rfl,hb2⟩;have hT2:=hT1.keep hb2;have hR2:=hR1.keep hb2;have hst4:=hst3.keep hb2;obtain ⟨ct2,ft2,lt2⟩:=hT2.rules;obtain ⟨cr2,fr2,lr2⟩:=hR2.rules));obtain ⟨cf,_,_⟩:=(Blk.put4 hR2 (Zi Zq 1) (Zi Zq p) (Zt ⟨t.toArray⟩) (Zi Zq 0)).rules;refine bodyPost_ret (v:=.agg #[(Zi Zq 1),(Zi Zq p),(Zt ⟨t.toArray⟩),(Zi Zq 0)]) (by simp only [results,Tryz.results128];go_simp) rfl ?_;rw [HSQ.out];exact ⟨rfl,by have:=hst4.put4 hR2 (Nat.le_refl _) hgw (Zi Zq 1) (Zi Zq p) (Zt ⟨t.toArray⟩) (Zi Zq 0);rw [HTL.out] at this;exact this⟩
    ·go_wp2_with (go_at_call 124;refine (HW1.out _).mono ?_;rintro e w1 ⟨rfl,hb1⟩;have hT1:=hT.keep hb1;have hR1:=hR.keep hb1;have hst3:=hst2.keep hb1;obtain ⟨ct1,ft1,lt1⟩:=hT1.rules;obtain ⟨cr1,fr1,lr1⟩:=hR1.rules);obtain ⟨cf,_,_⟩:=(Blk.put4 (hR1.far (p:=⟨N,0,none⟩) (show w.heap.size≠N by omega) (Zi Zq 2)) (Zi Zq 2) (Zi Zq p) (Zt ⟨t.toArray⟩) (Zi Zq 0)).rules;refine bodyPost_ret (v:=.agg #[(Zi Zq 2),(Zi Zq p),(Zt ⟨t.toArray⟩),(Zi Zq 0)]) (by simp only [results,Tryz.results128];go_simp) rfl ?_;rw [HSQ.out];exact ⟨rfl,by have:=(hst3.new hT1 sG (Nat.le_of_lt hn0) hgw 0 (Zi Zq 2)).put4 (hR1.far (p:=⟨N,0,none⟩) (by simp;omega) _) (Nat.le_refl _) hgw (Zi Zq 2) (Zi Zq p) (Zt ⟨t.toArray⟩) (Zi Zq 0);rw [HTL.out] at this;exact this⟩
end
end Go.Proofs.YtgmnmnnoahdjnaaGreatDoor
