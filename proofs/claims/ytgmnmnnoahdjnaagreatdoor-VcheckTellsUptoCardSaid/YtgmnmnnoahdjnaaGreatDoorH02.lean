import Derived.WalkSpells
import Derived.WalkLawsBesides
import Derived.Lib.Hide
import Derived.Handy
import Derived.PlainAid
import Derived.RangeFuncNested
import Derived.RangeFuncBound
import Derived.Shelf.RegionOpen
import Derived.OwnWalkIn
import Derived.LoopNIn
import Derived.LoopIn
import Derived.Laws.CopyOwn
import Derived.Deep.AppendLies
open Go.Value renaming int → Zi, slice → Zs, string → Zt, pointer → Zp
open Go.IntKind renaming i64 → Zq
set_option maxRecDepth 100000
set_option maxHeartbeats 16000000
set_option linter.unusedVariables false
set_option linter.unusedSimpArgs false
namespace Go.Proofs.YtgmnmnnoahdjnaaGreatDoor
section
open Go.RowKit
theorem gH {k:IntKind} {a b:Int} (h:a=b):Ending.returned (.int k a)=.returned (.int k b):=by rw [h]
theorem ak {a b:Bool} (h:a=b):Ending.returned (.bool a)=.returned (.bool b):=by rw [h]
abbrev sl (s:ByteArray):List UInt8:=s.data.toList
theorem jG (l:List UInt8):sl ⟨l.toArray⟩=l:=by simp [sl]
theorem cd (s:ByteArray):(sl s).length=s.size:=by simp [sl]
theorem jW {s t:ByteArray} (h:sl s=sl t):s=t:=by
 cases s;cases t;simp [sl] at h;rw [h]
theorem wZ (s:ByteArray) (k:Nat) (h:k<s.size):(sl s)[k]? = some s[k]:=by
 rw [List.getElem?_eq_getElem (by rw [cd];exact h)];rfl
section arrays
variable {P:Program}
theorem ab (t:TypeId) (cs:Array Value) (k:IntKind) (i:Int) (w:World)
  (h:P.underlying t=some (.array (P.arrayLen t) (P.elem t))) :
  (Instr.index t (.agg cs) (.int k i)).run P w =
   if 0<=i/\i<(P.arrayLen t:Int) then ((sizeOf (P.elem t)).run P w).andThen λ s w=>(part (P.elem t) cs (i.toNat*s)).run P w
   else (boundsPanic k i (P.arrayLen t) .index).run P w:=by
 simp only [Instr.index,Sem.run_bind,asIntOf,run_underlying h,Result.andThen,Sem.run_pure];split
 ·rw [Sem.run_bind];rfl
 ·rfl
theorem ae (t:TypeId) (cs:Array Value) (off:Nat) (w:World) (h:(isAgg t).run P w=.ok true w) :
  (part t cs off).run P w=((sizeOf t).run P w).andThen λ s w=>.ok (.agg (cs.extract off (off+s))) w:=by
 simp [part,Sem.run_bind,h,Result.andThen]
theorem af (t:TypeId) (cs:Array Value) (off:Nat) (w:World) (h:(isAgg t).run P w=.ok false w) (ho:off<cs.size) :
  (part t cs off).run P w=.ok cs[off] w:=by
 simp [part,Sem.run_bind,h,Result.andThen,ho]
theorem ac (t:TypeId) (cs:Array Value) (i:Nat) (w:World) (h:P.underlying t=some (.struct (P.fieldsOf t))) (hi:i<(P.fieldsOf t).size) :
  (Instr.field t (.agg cs) i).run P w=(part (P.fieldsOf t)[i].type cs (P.fieldsOf t)[i].offset).run P w:=by
 unfold Instr.field;simp only [Sem.run_bind,run_underlying h,Result.andThen];rw [Array.getElem?_eq_getElem hi];simp [asAgg]
end arrays
def Blk (w:World) (g:Nat) (t:TypeId) (cs:Array Value):Prop:=w.heap[g]? = some (.cells cs t (0,0))
section blocks
variable {w w':World} {g:Nat} {t:TypeId} {cs:Array Value}
theorem Blk.lt (h:Blk w g t cs):g<w.heap.size:=by
 rcases Nat.lt_or_ge g w.heap.size with hlt | hge
 ·exact hlt
 ·unfold Blk at h;rw [Array.getElem?_eq_none hge] at h;cases h
theorem Blk.cell (h:Blk w g t cs) (i:Nat):w.cell? ⟨g,i,none⟩=cs[i]?:=by
 unfold Blk at h;simp [World.cell?,h]
theorem Blk.frozen (h:Blk w g t cs) (i:Nat):w.frozen? ⟨g,i,none⟩=false:=by
 unfold Blk at h;simp [World.frozen?,h]
theorem Blk.rules (h:Blk w g t cs):(∀ i,w.cell? ⟨g,i,none⟩=cs[i]?)/\(∀ i,w.frozen? ⟨g,i,none⟩=false)/\g<w.heap.size:=⟨h.cell,h.frozen,h.lt⟩
theorem Blk.new (w:World) (t:TypeId) (cs:Array Value):Blk (w.alloc (.cells cs t)) w.heap.size t cs:=heap_alloc_new w _
theorem Blk.drew (h:Blk w g t cs):Blk w.drew g t cs:=h
theorem Blk.drewN (h:Blk w g t cs) (n:Nat):Blk (w.drewN n) g t cs:=h
theorem Blk.alloc (h:Blk w g t cs) (o:Obj):Blk (w.alloc o) g t cs:=(Below.heap_alloc w o g h.lt).trans h
theorem Blk.set_ (h:Blk w g t cs) (i:Nat) (u:Value):Blk (w.setCell ⟨g,i,none⟩ u) g t (cs.setIfInBounds i u):=by
 unfold Blk at h ⊢;simp [World.setCell,Array.getElem?_modify,h]
theorem Blk.far (h:Blk w g t cs) {p:Addr} (hp:g≠p.block) (u:Value):Blk (w.setCell p u) g t cs:=(Below.heap_setCell w p u g hp).trans h
theorem Blk.below {B:Nat} (h:Blk w g t cs) (hb:Below B w w') (hg:g<B):Blk w' g t cs:=(hb.block g hg).trans h
theorem Blk.keep (h:Blk w g t cs) (hb:Below w.heap.size w w'):Blk w' g t cs:=h.below hb h.lt
theorem Blk.grown {row:Option Nat} (h:Blk w g t cs) (hb:w.grownBy w' row) (hg:some g≠row):Blk w' g t cs:=(hb.block g h.lt hg).trans h
end blocks
def Rd (w:World) (A:Option Addr) (xs:List Value):Prop :=
 xs≠[]->∃ b o,A=some ⟨b,o,none⟩/\b<w.heap.size/\∀ i (h:i<xs.length),w.cell? ⟨b,o+i,none⟩=some xs[i]
section rows
variable {w w':World} {A:Option Addr} {xs:List Value}
theorem Rd.nil:Rd w A []:=λ h=>(h rfl).elim
theorem Rd.mono (h:Rd w A xs) (hs:w.heap.size<=w'.heap.size) (hc:∀ b o,b<w.heap.size->w'.cell? ⟨b,o,none⟩=w.cell? ⟨b,o,none⟩):Rd w' A xs:=λ hn=>by
 obtain ⟨b,o,e,hb,hx⟩:=h hn;exact ⟨b,o,e,by omega,λ i hi=>(hc b _ hb).trans (hx i hi)⟩
theorem Rd.below (h:Rd w A xs) (hb:Below w.heap.size w w'):Rd w' A xs:=h.mono hb.size λ b o hlt=>hb.cell (p:=⟨b,o,none⟩) hlt
theorem Rd.drewN (h:Rd w A xs) (n:Nat):Rd (w.drewN n) A xs:=h
theorem Rd.alloc (h:Rd w A xs) (o:Obj):Rd (w.alloc o) A xs:=h.below ((Below.refl _ w).alloc (Nat.le_refl _) o)
theorem Rd.drop (h:Rd w A xs) (k:Nat):Rd w (A.map λ a=>a.add k) (xs.drop k):=λ hn=>by
 have hne:xs≠[]:=λ e=>hn (by simp [e])
 obtain ⟨b,o,rfl,hb,hx⟩:=h hne;refine ⟨b,o+k,?_,hb,λ i hi=>?_⟩
 ·simp [Addr.add]
 ·have hi':k+i<xs.length:=by simp at hi;omega
  have:=hx (k+i) hi';rw [show o+k+i=o+(k+i) from by omega,this];simp
theorem Rd.take (h:Rd w A xs) (k:Nat):Rd w A (xs.take k):=λ hn=>by
 have hne:xs≠[]:=λ e=>hn (by simp [e])
 obtain ⟨b,o,rfl,hb,hx⟩:=h hne;exact ⟨b,o,rfl,hb,λ i hi=>by simp at hi;have:=hx i (by omega);rw [this];simp⟩
theorem Rd.of_blk {g:Nat} {t:TypeId} {cs:Array Value} (h:Blk w g t cs):Rd w (some ⟨g,0,none⟩) cs.toList:=λ _ =>
 ⟨g,0,rfl,h.lt,λ i hi=>by rw [Nat.zero_add,h.cell];simp at hi;simp [hi]⟩
end rows
def aq (l:List UInt8):List Value:=l.map λ c=>Zi .u8 c.toNat
theorem aA (l:List UInt8):(aq l).length=l.length:=by simp [aq]
def BS (w:World) (v:Value) (l:List UInt8):Prop:=∃ A cap,v=Zs A l.length cap/\l.length<=cap/\Rd w A (aq l)
section bytes
variable {w w':World} {v:Value} {l:List UInt8}
theorem BS.below (h:BS w v l) (hb:Below w.heap.size w w'):BS w' v l:=by
 obtain ⟨A,cap,e,hc,hr⟩:=h;exact ⟨A,cap,e,hc,hr.below hb⟩
theorem BS.alloc (h:BS w v l) (o:Obj):BS (w.alloc o) v l:=h.below ((Below.refl _ w).alloc (Nat.le_refl _) o)
theorem BS.drewN (h:BS w v l) (n:Nat):BS (w.drewN n) v l:=h
theorem BS.nil:BS w (Zs none 0 0) []:=⟨none,0,rfl,Nat.le_refl _,Rd.nil⟩
theorem BS.some_ (h:BS w v l) (hn:l≠[]):∃ b o cap,v=Zs (some ⟨b,o,none⟩) l.length cap/\l.length<=cap/\b<w.heap.size /\
  ∀ i c,l[i]? = some c->w.cell? ⟨b,o+i,none⟩=some (Zi .u8 c.toNat):=by
 obtain ⟨A,cap,rfl,hc,hr⟩:=h;obtain ⟨b,o,rfl,hb,hx⟩:=hr (by simpa [aq] using hn);refine ⟨b,o,cap,rfl,hc,hb,λ i c hi=>?_⟩;obtain ⟨hlt,e⟩:=List.getElem?_eq_some_iff.1 hi;have:=hx i (by rw [aA];exact hlt);rw [this];simp [aq,e]
end bytes
theorem gE (a:Nat) (ha:a<9223372036854775808):(BitVec.ofInt 64 (a:Int)).toNat=a:=by
 rw [BitVec.ofInt_natCast,BitVec.toNat_ofNat];exact Nat.mod_eq_of_lt (by omega)
theorem nN (a b:Nat) (ha:a<9223372036854775808) (hb:b<9223372036854775808):bits .and .i64 (a:Int) (b:Int)=((a&&&b:Nat):Int):=by
 have hx:a&&&b<2 ^ 63:=Nat.and_lt_two_pow _ (by omega);show IntKind.i64.wrap ((BitVec.ofInt 64 (a:Int)&&&BitVec.ofInt 64 (b:Int)).toNat:Int)=_
 rw [BitVec.toNat_and,gE a ha,gE b hb,IntKind.wrap_i64];omega
theorem kt (a b:Nat) (ha:a<9223372036854775808) (hb:b<9223372036854775808):bits .or .i64 (a:Int) (b:Int)=((a|||b:Nat):Int):=by
 have hx:a|||b<2 ^ 63:=Nat.or_lt_two_pow (by omega) (by omega);show IntKind.i64.wrap ((BitVec.ofInt 64 (a:Int)|||BitVec.ofInt 64 (b:Int)).toNat:Int)=_
 rw [BitVec.toNat_or,gE a ha,gE b hb,IntKind.wrap_i64];omega
theorem fR (a k:Nat) (ha:a<9223372036854775808) (hk:2 ^ k<=9223372036854775808):bits .and .i64 (a:Int) ((2 ^ k-1:Nat):Int)=((a % 2 ^ k:Nat):Int):=by
 rw [nN _ _ ha (by have:=Nat.two_pow_pos k;omega),Nat.and_two_pow_sub_one_eq_mod]
theorem kr (a b k:Nat) (hb:b<2 ^ k) (h:a*2 ^ k+b<9223372036854775808):bits .or .i64 ((a*2 ^ k:Nat):Int) (b:Int)=((a*2 ^ k+b:Nat):Int):=by
 rw [kt _ _ (by omega) (by omega),Nat.mul_comm,Nat.two_pow_add_eq_or_of_lt hb]
theorem ah {B:Nat} {a w:World} (h:Below B a w) (n:Nat):Below B a (w.drewN n):=⟨h.os,h.tape,h.output,h.size,h.block⟩
end
section
open Go.RowKit Go.Shelf
def ly {α:Type} (F:Fence) (n:Nat) (P:Program) (g:Nat) (lb:Array Value) (encs:α->Array Value) (St Kp:World->World->Prop) (Adm:List α->α->Prop)
  (Done dC:List α->World->Prop) (w:World):Prop :=
 ∀ (l:Nat) (J Jx:List α->World->Prop) (W:World),Below w.heap.size w W->(∀ s A B,St A B->J s A->J s B)->(∀ s A B,St A B->Jx s A->Jx s B) ->
  (∀ pre x W1,J pre W1->Adm pre x->YieldAt F (n-1) P l (encs x) W1 λ e W' =>
   (e=.returned (.bool true)/\J (pre++[x]) W'/\Kp W1 W')∨(e=.returned (.bool false)/\Jx (pre++[x]) W'/\Kp W1 W')) ->
  J [] W ->
  CallsIn F n P g (#[.func (.yield l) #[] #[]]++lb) W λ e W'=>(∃ v,e=.returned v)/\((∃ xs,Done xs W'/\J xs W')∨(∃ pre,dC pre W'/\Jx pre W'))
def tB {α:Type} (B:Nat) (Kp:World->World->Prop) (I:List α->World->Prop) (Ix:Code->List α->World->Prop) (xs:List α) (W:World):Exit->Act->World->Prop
 | .normal,_,W'=>KeepsFrom B W W'/\Kp W W'/\I xs W'
 | .ret,_,W'=>KeepsFrom B W W'/\Kp W W'/\Ix .ret xs W'
 | .exit id,_,W'=>KeepsFrom B W W'/\Kp W W'/\Ix (.exit id) xs W'
 | .goto t,_,W'=>KeepsFrom B W W'/\Kp W W'/\Ix (.goto t) xs W'
 | .panic _,_,_=>False
 | .outgrown,_,_=>False
variable {F:Fence} {n:Nat} {P:Program}
theorem qI {α:Type} {g:Operand} {ps:Array Tmp} {assign body:Code} {Q:Exit->Act->World->Prop} {a:Act} {w:World}
  (hro:F.round=none) (h1:1<=n) {gf:Nat} {lb:Array Value} (hg:a.eval g=.func (.func gf) #[] lb) (hFg:F.fn gf) (eg:∀ args w,(callFunc gf args).run P w=.ok (.enter gf args) w)
  {encs:α->Array Value} {St Kp:World->World->Prop} {Adm:List α->α->Prop} {Done dC:List α->World->Prop} {w0:World} (hseq:ly F (n-1) P gf lb encs St Kp Adm Done dC w0)
  (hb0:Below w0.heap.size w0 w) (hps:∀ x,(encs x).size=ps.size)
  (hSk:∀ A B k o,St A B->w.heap.size<=k->A.heap[k]? = some o->o.isCells=false->B.heap[k]? = some o)
  (hKt:∀ {A B C:World},Kp A B->Kp B C->Kp A C) (hKb:∀ (W:World) (k:Nat) (o o':Obj),w.heap.size<=k->W.heap[k]? = some o->o.isCells=false->Kp W (W.putObj k o'))
  (hDp:∀ xs (W:World) (k:Nat) (o o':Obj),w.heap.size<=k->W.heap[k]? = some o->o.isCells=false->Done xs W->Done xs (W.putObj k o'))
  (hSp:∀ xs (W:World) (k:Nat) (o o':Obj),w.heap.size<=k->W.heap[k]? = some o->o.isCells=false->dC xs W->dC xs (W.putObj k o'))
  (I:List α->World->Prop) (Ix:Code->List α->World->Prop)
  (hIS:∀ s A B,St A B->I s A->I s B) (hIxS:∀ c s A B,St A B->Ix c s A->Ix c s B)
  (hIp:∀ s (W:World) (k:Nat) (o o':Obj),w.heap.size<=k->W.heap[k]? = some o->o.isCells=false->I s W->I s (W.putObj k o'))
  (hIxp:∀ c s (W:World) (k:Nat) (o o':Obj),w.heap.size<=k->W.heap[k]? = some o->o.isCells=false->Ix c s W->Ix c s (W.putObj k o'))
  (h0:∀ o o',I [] ((w.alloc o).alloc o')) (a₁:α->Act)
  (hassign:∀ (l:Nat) (x:α) (W:World) (K:Act->World->Prop),K (a₁ x) W ->
   assign.wpIn (F.inRound l) (n-1-1) P (Exit.then K (λ _ _ _=>False)) { tmps:=(ps.zip (encs x)).foldl (λ t (p,v)=>t.setIfInBounds p v) a.tmps,defers:=[] } W)
  (hbody:∀ (l:Nat) (pre:List α) (x:α) (W:World),I pre W->Adm pre x->body.wpIn (F.inRound l) (n-1-1) P (tB w.heap.size Kp I Ix (pre++[x]) W) (a₁ x) W)
  (hdone:∀ (D:Nat) (xs:List α) (W:World),w.heap.size<=D->Done xs W->I xs W->W.heap[D]? = some (.deferred (some []))->Q .normal { a with defers:={ target:=.collected D,args:=#[] }::a.defers } W)
  (hstop:∀ (D:Nat) (c:Code) (pre:List α) (W:World),w.heap.size<=D->dC pre W->Ix c pre W->W.heap[D]? = some (.deferred (some []))->c.wpIn F n P Q { a with defers:={ target:=.collected D,args:=#[] }::a.defers } W) :
  (Code.rangeFunc g ps assign body).wpIn F n P Q a w:=by
 refine wpIn_rangeFunc ?_;intro fn hfn;rw [hro];generalize hrec:(λ (st:LoopState) (pe:Option Code)=>({ state:=st,pending:=pe,fn,tmps:=a.tmps,params:=ps,assign,body,defers:=w.heap.size }:Loop))=rec;generalize hW1:(w.alloc (.deferred (some []))).alloc (.loop (rec .ready none))=W1;have hsz1:W1.heap.size=w.heap.size+2:=by rw [← hW1];simp
 have hL1:W1.heap[w.heap.size+1]? = some (.loop (rec .ready none)):=by
  rw [← hW1];have:=heap_alloc_new (w.alloc (.deferred (some []))) (.loop (rec .ready none));rwa [World.size_alloc] at this
 have hK1:W1.heap[w.heap.size]? = some (.deferred (some [])):=by
  rw [← hW1];exact (Below.heap_alloc _ _ _ (by simp)).trans (heap_alloc_new w _)
 have hI1:I [] W1:=by rw [← hW1];exact h0 _ _
 have hb1:Below w0.heap.size w0 W1:=by
  rw [← hW1];exact hb0.trans ((((Below.refl _ w).alloc (Nat.le_refl _) _).alloc (by simp) _).mono hb0.size)
 have hrp:∀ st pe,(rec st pe).params=ps:=λ st pe=>by rw [← hrec]
 have hrs:∀ st pe,(rec st pe).state=st:=λ st pe=>by rw [← hrec]
 have hrd:∀ st pe,(rec st pe).pending=pe:=λ st pe=>by rw [← hrec]
 refine ⟨w.heap.size+1,[{ target:=.collected w.heap.size,args:=#[] }],W1,{ target:=.fn (.func gf) lb,args:=#[.func (.yield (w.heap.size+1)) #[] #[]] },W1,gf,
  #[.func (.yield (w.heap.size+1)) #[] #[]]++lb,W1,?_,?_,?_,?_,λ _=>h1,?_⟩
 ·rw [← hW1,← hrec];exact run_enterLoop_outer _ _ _ _ _
 ·simp only [resolve,hg];simp [go_sem]
 ·intro f' hf';simp [Target.leads] at hf';subst hf';exact hFg
 ·simp [invoke,go_sem,eg]
 refine (hseq (w.heap.size+1)
  (λ pre W=>I pre W/\W.heap[w.heap.size+1]? = some (.loop (rec .ready none))/\W.heap[w.heap.size]? = some (.deferred (some [])))
  (λ pre W => ∃ c,Ix c pre W/\W.heap[w.heap.size+1]? = some (.loop (rec .done (some c)))/\W.heap[w.heap.size]? = some (.deferred (some [])))
  W1 hb1
  (λ s A B hs h=>⟨hIS s A B hs h.1,hSk A B _ _ hs (by omega) h.2.1 rfl,hSk A B _ _ hs (Nat.le_refl _) h.2.2 rfl⟩)
  (λ s A B hs h=>by obtain ⟨c,h1,h2,h3⟩:=h;exact ⟨c,hIxS c s A B hs h1,hSk A B _ _ hs (by omega) h2 rfl,hSk A B _ _ hs (Nat.le_refl _) h3 rfl⟩)
  ?_ ⟨hI1,hL1,hK1⟩).mono ?_
 ·rintro pre x W ⟨hi,hl,hk⟩ hadm;have hlt:w.heap.size+1<W.heap.size:=(Array.getElem?_eq_some_iff.1 hl).1;have hy:=run_yield (P:=P) (args:=encs x) hl (by rw [hrp];exact hps x);refine ⟨_,_,_,_,hy,?_⟩;have e1:(rec .ready none).fn=fn/\(rec .ready none).tmps=a.tmps/\(rec .ready none).assign=assign/\(rec .ready none).body=body:=by rw [← hrec];exact ⟨rfl,rfl,rfl,rfl⟩
  rw [e1.1,e1.2.1,e1.2.2.1,e1.2.2.2,hrp];have hbusy:({ rec .ready none with state:=.busy }:Loop)=rec .busy none:=by rw [← hrec]
  have hbr:=run_beginRound (P:=P) hl (hrs _ _);rw [hbusy] at hbr;refine roundIn_of_wpIn hfn (hassign _ x W _ ⟨_,hbr,?_⟩);have hl2:(W.putObj (w.heap.size+1) (.loop (rec .busy none))).heap[w.heap.size+1]? = some (.loop (rec .busy none)):=World.putObj_heap_same hlt;have hk2:(W.putObj (w.heap.size+1) (.loop (rec .busy none))).heap[w.heap.size]? = some (.deferred (some [])):=(World.putObj_heap_other (by omega)).trans hk;have hw2:Kp W (W.putObj (w.heap.size+1) (.loop (rec .busy none))):=hKb _ _ _ _ (by omega) hl rfl;refine wpIn_mono (hbody _ pre x _ (hIp _ _ _ _ _ (by omega) hl rfl hi) hadm) ?_;have fin:∀ (jump:Option Code) (W3:World),KeepsFrom w.heap.size (W.putObj (w.heap.size+1) (.loop (rec .busy none))) W3 ->
    (Instr.endRound (w.heap.size+1) jump).run P W3=.ok (.bool jump.isNone) (W3.putObj (w.heap.size+1) (.loop (rec (if jump.isNone then .ready else .done) jump))) /\
    W3.heap[w.heap.size+1]? = some (.loop (rec .busy none)) /\
    (W3.putObj (w.heap.size+1) (.loop (rec (if jump.isNone then .ready else .done) jump))).heap[w.heap.size+1]? = some (.loop (rec (if jump.isNone then .ready else .done) jump)) /\
    (W3.putObj (w.heap.size+1) (.loop (rec (if jump.isNone then .ready else .done) jump))).heap[w.heap.size]? = some (.deferred (some [])):=λ jump W3 hk3=>by
   have hl3:=hk3.same _ _ (by omega) hl2 rfl;have:=run_endRound (P:=P) jump hl3;rw [← hrec] at this hl3 ⊢;exact ⟨this,hl3,World.putObj_heap_same (Array.getElem?_eq_some_iff.1 hl3).1,(World.putObj_heap_other (by omega)).trans (hk3.same _ _ (Nat.le_refl _) hk2 rfl)⟩
  rintro e a3 W3 hp;cases e with
  |normal =>
   obtain ⟨hk3,hkp3,hi3⟩:=hp;obtain ⟨hr,hl3,hl4,hk4⟩:=fin none W3 hk3;exact ⟨_,_,hr,.inl ⟨rfl,⟨hIp _ _ _ _ _ (by omega) hl3 rfl hi3,hl4,hk4⟩,hKt (hKt hw2 hkp3) (hKb _ _ _ _ (by omega) hl3 rfl)⟩⟩
  |ret =>
   obtain ⟨hk3,hkp3,hi3⟩:=hp;obtain ⟨hr,hl3,hl4,hk4⟩:=fin (some .ret) W3 hk3;exact ⟨_,_,hr,.inr ⟨rfl,⟨.ret,hIxp _ _ _ _ _ _ (by omega) hl3 rfl hi3,hl4,hk4⟩,hKt (hKt hw2 hkp3) (hKb _ _ _ _ (by omega) hl3 rfl)⟩⟩
  |exit id =>
   obtain ⟨hk3,hkp3,hi3⟩:=hp;obtain ⟨hr,hl3,hl4,hk4⟩:=fin (some (.exit id)) W3 hk3;exact ⟨_,_,hr,.inr ⟨rfl,⟨.exit id,hIxp _ _ _ _ _ _ (by omega) hl3 rfl hi3,hl4,hk4⟩,hKt (hKt hw2 hkp3) (hKb _ _ _ _ (by omega) hl3 rfl)⟩⟩
  |goto t =>
   obtain ⟨hk3,hkp3,hi3⟩:=hp;obtain ⟨hr,hl3,hl4,hk4⟩:=fin (some (.goto t)) W3 hk3;exact ⟨_,_,hr,.inr ⟨rfl,⟨.goto t,hIxp _ _ _ _ _ _ (by omega) hl3 rfl hi3,hl4,hk4⟩,hKt (hKt hw2 hkp3) (hKb _ _ _ _ (by omega) hl3 rfl)⟩⟩
  | panic ch=>exact hp.elim
  | outgrown=>exact hp.elim
 ·rintro e W2 ⟨⟨v,rfl⟩,(⟨xs,hD,hi,hl,hk⟩ | ⟨pre,hS,c,hi,hl,hk⟩)⟩
  ·refine ⟨none,_,by have:=run_endLoop (P:=P) hl (by rw [hrs];simp);rw [hrd] at this;exact this,?_⟩;exact hdone _ xs _ (Nat.le_refl _) (hDp _ _ _ _ _ (by omega) hl rfl hD) (hIp _ _ _ _ _ (by omega) hl rfl hi) ((World.putObj_heap_other (by omega)).trans hk)
  ·refine ⟨some c,_,by have:=run_endLoop (P:=P) hl (by rw [hrs];simp);rw [hrd] at this;exact this,?_⟩;exact hstop _ c pre _ (Nat.le_refl _) (hSp _ _ _ _ _ (by omega) hl rfl hS) (hIxp _ _ _ _ _ _ (by omega) hl rfl hi) ((World.putObj_heap_other (by omega)).trans hk)
def aI (S:Nat->Prop) (W W':World):Prop:=W.heap.size<=W'.heap.size/\∀ k,S k->W'.heap[k]? = W.heap[k]?
theorem aI.refl (S:Nat->Prop) (W:World):aI S W W:=⟨Nat.le_refl _,λ _ _=>rfl⟩
theorem aI.trans {S:Nat->Prop} {A B C:World} (h:aI S A B) (k:aI S B C):aI S A C:=⟨Nat.le_trans h.1 k.1,λ i hi=>(k.2 i hi).trans (h.2 i hi)⟩
theorem aI.putObj {S:Nat->Prop} {N:Nat} (hS:∀ k,S k->k<N) (W:World) (k:Nat) (o':Obj) (hk:N<=k):aI S W (W.putObj k o') :=
 ⟨by simp [World.putObj],λ i hi=>World.putObj_heap_other (by have:=hS i hi;omega)⟩
theorem aI.blk {S:Nat->Prop} {W W':World} {g:Nat} {t:TypeId} {cs:Array Value} (h:aI S W W') (hb:Blk W g t cs) (hg:S g):Blk W' g t cs:=(h.2 g hg).trans hb
theorem aI.of_below {S:Nat->Prop} {B:Nat} {W W':World} (h:Below B W W') (hS:∀ k,S k->k<B):aI S W W':=⟨h.size,λ k hk=>h.block k (hS k hk)⟩
theorem Blk.putObj {W:World} {g k:Nat} {t:TypeId} {cs:Array Value} {o:Obj} (o':Obj) (h:Blk W g t cs) (ho:W.heap[k]? = some o) (hc:o.isCells=false):Blk (W.putObj k o') g t cs :=
 (World.putObj_heap_other (by rintro rfl;unfold Blk at h;rw [h] at ho;cases ho;cases hc)).trans h
theorem aT {B:Nat} {w W:World} (h:Below B w W) (k:Nat) (o':Obj) (hk:B<=k):Below B w (W.putObj k o') :=
 h.trans ⟨rfl,rfl,rfl,by simp [World.putObj],λ i hi=>World.putObj_heap_other (by omega)⟩
theorem Rd.putObj {W:World} {A:Option Addr} {xs:List Value} {k:Nat} {o:Obj} (o':Obj) (h:Rd W A xs) (ho:W.heap[k]? = some o) (hc:o.isCells=false):Rd (W.putObj k o') A xs:=λ hn=>by
 obtain ⟨b,q,e,hb,hx⟩:=h hn;refine ⟨b,q,e,by simpa [World.putObj] using hb,λ i hi=>?_⟩;have hne:b≠k:=by
  rintro rfl;have:=hx 0 (List.length_pos_iff.2 hn);unfold World.cell? at this;simp only [ho] at this;cases o<;>simp_all [Obj.isCells]
 rw [← hx i hi];exact World.cell?_of_block (w:=W) (World.putObj_heap_other hne)
variable {F:Fence} {n:Nat} {P:Program}
theorem oT {α:Type} {g:Operand} {ps:Array Tmp} {assign body:Code} {Q:Exit->Act->World->Prop} {a:Act} {w:World}
  (hro:F.round=none) (h1:1<=n) {gf:Nat} {lb:Array Value} (hg:a.eval g=.func (.func gf) #[] lb) (hFg:F.fn gf) (eg:∀ args w,(callFunc gf args).run P w=.ok (.enter gf args) w)
  {encs:α->Array Value} {St Kp:World->World->Prop} {Adm:List α->α->Prop} {Done dC:List α->World->Prop} {w0:World} (hseq:ly F (n-1) P gf lb encs St Kp Adm Done dC w0)
  (hb0:Below w0.heap.size w0 w) (hps:∀ x,(encs x).size=ps.size)
  (hSk:∀ A B k o,St A B->w.heap.size<=k->A.heap[k]? = some o->o.isCells=false->B.heap[k]? = some o)
  (hKt:∀ {A B C:World},Kp A B->Kp B C->Kp A C) (hKb:∀ (W:World) (k:Nat) (o o':Obj),w.heap.size<=k->W.heap[k]? = some o->o.isCells=false->Kp W (W.putObj k o'))
  (hDp:∀ xs (W:World) (k:Nat) (o o':Obj),w.heap.size<=k->W.heap[k]? = some o->o.isCells=false->Done xs W->Done xs (W.putObj k o'))
  (hSp:∀ xs (W:World) (k:Nat) (o o':Obj),w.heap.size<=k->W.heap[k]? = some o->o.isCells=false->dC xs W->dC xs (W.putObj k o'))
  (I:List α->World->Prop) (Ix:Code->List α->World->Prop)
  (hIS:∀ s A B,St A B->I s A->I s B) (hIxS:∀ c s A B,St A B->Ix c s A->Ix c s B)
  (hIp:∀ s (W:World) (k:Nat) (o o':Obj),w.heap.size<=k->W.heap[k]? = some o->o.isCells=false->I s W->I s (W.putObj k o'))
  (hIxp:∀ c s (W:World) (k:Nat) (o o':Obj),w.heap.size<=k->W.heap[k]? = some o->o.isCells=false->Ix c s W->Ix c s (W.putObj k o'))
  (h0:∀ o o',I [] ((w.alloc o).alloc o')) (I1:List α->α->Act->World->Prop)
  (hI1p:∀ pre x a1 (W:World) (k:Nat) (o o':Obj),w.heap.size<=k->W.heap[k]? = some o->o.isCells=false->I1 pre x a1 W->I1 pre x a1 (W.putObj k o'))
  (hassign:∀ (l:Nat) (pre:List α) (x:α) (W:World),I pre W->Adm pre x ->
   assign.wpIn (F.inRound l) (n-1-1) P (Exit.then (λ a1 W'=>I1 pre x a1 W'/\KeepsFrom w.heap.size W W'/\Kp W W') (λ _ _ _=>False)) { tmps:=(ps.zip (encs x)).foldl (λ t (p,v)=>t.setIfInBounds p v) a.tmps,defers:=[] } W)
  (hbody:∀ (l:Nat) (pre:List α) (x:α) (a1:Act) (W:World),I1 pre x a1 W->Adm pre x->body.wpIn (F.inRound l) (n-1-1) P (tB w.heap.size Kp I Ix (pre++[x]) W) a1 W)
  (hdone:∀ (D:Nat) (xs:List α) (W:World),w.heap.size<=D->Done xs W->I xs W->W.heap[D]? = some (.deferred (some []))->Q .normal { a with defers:={ target:=.collected D,args:=#[] }::a.defers } W)
  (hstop:∀ (D:Nat) (c:Code) (pre:List α) (W:World),w.heap.size<=D->dC pre W->Ix c pre W->W.heap[D]? = some (.deferred (some []))->c.wpIn F n P Q { a with defers:={ target:=.collected D,args:=#[] }::a.defers } W) :
  (Code.rangeFunc g ps assign body).wpIn F n P Q a w:=by
 refine wpIn_rangeFunc ?_;intro fn hfn;rw [hro];generalize hrec:(λ (st:LoopState) (pe:Option Code)=>({ state:=st,pending:=pe,fn,tmps:=a.tmps,params:=ps,assign,body,defers:=w.heap.size }:Loop))=rec;generalize hW1:(w.alloc (.deferred (some []))).alloc (.loop (rec .ready none))=W1;have hsz1:W1.heap.size=w.heap.size+2:=by rw [← hW1];simp
 have hL1:W1.heap[w.heap.size+1]? = some (.loop (rec .ready none)):=by
  rw [← hW1];have:=heap_alloc_new (w.alloc (.deferred (some []))) (.loop (rec .ready none));rwa [World.size_alloc] at this
 have hK1:W1.heap[w.heap.size]? = some (.deferred (some [])):=by
  rw [← hW1];exact (Below.heap_alloc _ _ _ (by simp)).trans (heap_alloc_new w _)
 have hI1:I [] W1:=by rw [← hW1];exact h0 _ _
 have hb1:Below w0.heap.size w0 W1:=by
  rw [← hW1];exact hb0.trans ((((Below.refl _ w).alloc (Nat.le_refl _) _).alloc (by simp) _).mono hb0.size)
 have hrp:∀ st pe,(rec st pe).params=ps:=λ st pe=>by rw [← hrec]
 have hrs:∀ st pe,(rec st pe).state=st:=λ st pe=>by rw [← hrec]
 have hrd:∀ st pe,(rec st pe).pending=pe:=λ st pe=>by rw [← hrec]
 refine ⟨w.heap.size+1,[{ target:=.collected w.heap.size,args:=#[] }],W1,{ target:=.fn (.func gf) lb,args:=#[.func (.yield (w.heap.size+1)) #[] #[]] },W1,gf,
  #[.func (.yield (w.heap.size+1)) #[] #[]]++lb,W1,?_,?_,?_,?_,λ _=>h1,?_⟩
 ·rw [← hW1,← hrec];exact run_enterLoop_outer _ _ _ _ _
 ·simp only [resolve,hg];simp [go_sem]
 ·intro f' hf';simp [Target.leads] at hf';subst hf';exact hFg
 ·simp [invoke,go_sem,eg]
 refine (hseq (w.heap.size+1)
  (λ pre W=>I pre W/\W.heap[w.heap.size+1]? = some (.loop (rec .ready none))/\W.heap[w.heap.size]? = some (.deferred (some [])))
  (λ pre W => ∃ c,Ix c pre W/\W.heap[w.heap.size+1]? = some (.loop (rec .done (some c)))/\W.heap[w.heap.size]? = some (.deferred (some [])))
  W1 hb1
  (λ s A B hs h=>⟨hIS s A B hs h.1,hSk A B _ _ hs (by omega) h.2.1 rfl,hSk A B _ _ hs (Nat.le_refl _) h.2.2 rfl⟩)
  (λ s A B hs h=>by obtain ⟨c,h1,h2,h3⟩:=h;exact ⟨c,hIxS c s A B hs h1,hSk A B _ _ hs (by omega) h2 rfl,hSk A B _ _ hs (Nat.le_refl _) h3 rfl⟩)
  ?_ ⟨hI1,hL1,hK1⟩).mono ?_
 ·rintro pre x W ⟨hi,hl,hk⟩ hadm;have hlt:w.heap.size+1<W.heap.size:=(Array.getElem?_eq_some_iff.1 hl).1;have hy:=run_yield (P:=P) (args:=encs x) hl (by rw [hrp];exact hps x);refine ⟨_,_,_,_,hy,?_⟩;have e1:(rec .ready none).fn=fn/\(rec .ready none).tmps=a.tmps/\(rec .ready none).assign=assign/\(rec .ready none).body=body:=by rw [← hrec];exact ⟨rfl,rfl,rfl,rfl⟩
  rw [e1.1,e1.2.1,e1.2.2.1,e1.2.2.2,hrp];have hbusy:({ rec .ready none with state:=.busy }:Loop)=rec .busy none:=by rw [← hrec]
  refine roundIn_of_wpIn hfn (wpIn_mono (hassign _ pre x W hi hadm) ?_);intro e a1 Wa hp1;rcases e with _ | _ | _ | _ | _ | _
  all_goals first | exact hp1.elim | skip
  obtain ⟨hi1,hkA,hkpA⟩:=hp1;have hlA:=hkA.same _ _ (by omega) hl rfl;have hkA2:=hkA.same _ _ (Nat.le_refl _) hk rfl;have hltA:w.heap.size+1<Wa.heap.size:=(Array.getElem?_eq_some_iff.1 hlA).1;have hbr:=run_beginRound (P:=P) hlA (hrs _ _);rw [hbusy] at hbr;refine ⟨_,hbr,?_⟩;have hl2:(Wa.putObj (w.heap.size+1) (.loop (rec .busy none))).heap[w.heap.size+1]? = some (.loop (rec .busy none)):=World.putObj_heap_same hltA;have hk2:(Wa.putObj (w.heap.size+1) (.loop (rec .busy none))).heap[w.heap.size]? = some (.deferred (some [])):=(World.putObj_heap_other (by omega)).trans hkA2;have hw2:Kp W (Wa.putObj (w.heap.size+1) (.loop (rec .busy none))):=hKt hkpA (hKb _ _ _ _ (by omega) hlA rfl);refine wpIn_mono (hbody _ pre x a1 _ (hI1p _ _ _ _ _ _ _ (by omega) hlA rfl hi1) hadm) ?_;have fin:∀ (jump:Option Code) (W3:World),KeepsFrom w.heap.size (Wa.putObj (w.heap.size+1) (.loop (rec .busy none))) W3 ->
    (Instr.endRound (w.heap.size+1) jump).run P W3=.ok (.bool jump.isNone) (W3.putObj (w.heap.size+1) (.loop (rec (if jump.isNone then .ready else .done) jump))) /\
    W3.heap[w.heap.size+1]? = some (.loop (rec .busy none)) /\
    (W3.putObj (w.heap.size+1) (.loop (rec (if jump.isNone then .ready else .done) jump))).heap[w.heap.size+1]? = some (.loop (rec (if jump.isNone then .ready else .done) jump)) /\
    (W3.putObj (w.heap.size+1) (.loop (rec (if jump.isNone then .ready else .done) jump))).heap[w.heap.size]? = some (.deferred (some [])):=λ jump W3 hk3=>by
   have hl3:=hk3.same _ _ (by omega) hl2 rfl;have:=run_endRound (P:=P) jump hl3;rw [← hrec] at this hl3 ⊢;exact ⟨this,hl3,World.putObj_heap_same (Array.getElem?_eq_some_iff.1 hl3).1,(World.putObj_heap_other (by omega)).trans (hk3.same _ _ (Nat.le_refl _) hk2 rfl)⟩
  rintro e a3 W3 hp;cases e with
  |normal =>
   obtain ⟨hk3,hkp3,hi3⟩:=hp;obtain ⟨hr,hl3,hl4,hk4⟩:=fin none W3 hk3;exact ⟨_,_,hr,.inl ⟨rfl,⟨hIp _ _ _ _ _ (by omega) hl3 rfl hi3,hl4,hk4⟩,hKt (hKt hw2 hkp3) (hKb _ _ _ _ (by omega) hl3 rfl)⟩⟩
  |ret =>
   obtain ⟨hk3,hkp3,hi3⟩:=hp;obtain ⟨hr,hl3,hl4,hk4⟩:=fin (some .ret) W3 hk3;exact ⟨_,_,hr,.inr ⟨rfl,⟨.ret,hIxp _ _ _ _ _ _ (by omega) hl3 rfl hi3,hl4,hk4⟩,hKt (hKt hw2 hkp3) (hKb _ _ _ _ (by omega) hl3 rfl)⟩⟩
  |exit id =>
   obtain ⟨hk3,hkp3,hi3⟩:=hp;obtain ⟨hr,hl3,hl4,hk4⟩:=fin (some (.exit id)) W3 hk3;exact ⟨_,_,hr,.inr ⟨rfl,⟨.exit id,hIxp _ _ _ _ _ _ (by omega) hl3 rfl hi3,hl4,hk4⟩,hKt (hKt hw2 hkp3) (hKb _ _ _ _ (by omega) hl3 rfl)⟩⟩
  |goto t =>
   obtain ⟨hk3,hkp3,hi3⟩:=hp;obtain ⟨hr,hl3,hl4,hk4⟩:=fin (some (.goto t)) W3 hk3;exact ⟨_,_,hr,.inr ⟨rfl,⟨.goto t,hIxp _ _ _ _ _ _ (by omega) hl3 rfl hi3,hl4,hk4⟩,hKt (hKt hw2 hkp3) (hKb _ _ _ _ (by omega) hl3 rfl)⟩⟩
  | panic ch=>exact hp.elim
  | outgrown=>exact hp.elim
 ·rintro e W2 ⟨⟨v,rfl⟩,(⟨xs,hD,hi,hl,hk⟩ | ⟨pre,hS,c,hi,hl,hk⟩)⟩
  ·refine ⟨none,_,by have:=run_endLoop (P:=P) hl (by rw [hrs];simp);rw [hrd] at this;exact this,?_⟩;exact hdone _ xs _ (Nat.le_refl _) (hDp _ _ _ _ _ (by omega) hl rfl hD) (hIp _ _ _ _ _ (by omega) hl rfl hi) ((World.putObj_heap_other (by omega)).trans hk)
  ·refine ⟨some c,_,by have:=run_endLoop (P:=P) hl (by rw [hrs];simp);rw [hrd] at this;exact this,?_⟩;exact hstop _ c pre _ (Nat.le_refl _) (hSp _ _ _ _ _ (by omega) hl rfl hS) (hIxp _ _ _ _ _ _ (by omega) hl rfl hi) ((World.putObj_heap_other (by omega)).trans hk)
end
section
open Go.RowKit
theorem Rd.at_ {w:World} {A:Option Addr} {xs:List Value} (h:Rd w A xs) (hn:xs≠[]):∃ ad,A=some ad/\∀ j u,xs[j]? = some u->w.cell? (ad.add j)=some u:=by
 obtain ⟨b,o,rfl,_,hx⟩:=h hn;refine ⟨_,rfl,λ j u hu=>?_⟩;obtain ⟨hj,e⟩:=List.getElem?_eq_some_iff.1 hu;have hadd:(⟨b,o,none⟩:Addr).add j=⟨b,o+j,none⟩:=by unfold Addr.add;split<;>simp_all
 rw [hadd,hx j hj,e]
theorem Rd.of_own {w:World} {base:Nat} {e:TypeId} {size n:Nat} {v:Value} {xs:List Value} (h:w.ownsRow base e size v n xs):∃ A cap,v=Zs A n cap/\n<=cap/\Rd w A xs:=by
 rcases h.2 with ⟨rfl,h0⟩ | ⟨g,cap,cur,rfl,_,hg,hnc,_,_,_⟩
 ·subst h0;have:xs=[]:=List.eq_nil_of_length_eq_zero (by simpa using h.1);subst this;exact ⟨none,0,rfl,Nat.le_refl _,Rd.nil⟩
 ·refine ⟨_,cap,rfl,hnc,λ _=>⟨g,0,rfl,(Array.getElem?_eq_some_iff.1 hg).1,λ i hi=>?_⟩⟩;have:=h.cells (g:=g) rfl i xs[i] (List.getElem?_eq_getElem hi);rw [Nat.zero_add,← this];unfold Addr.add;split
  ·rename_i h0;subst h0;rfl
  ·simp
theorem BS.of_own {w:World} {base:Nat} {e:TypeId} {v:Value} {l:List UInt8} (h:w.ownsRow base e 1 v l.length (aq l)):BS w v l:=by
 obtain ⟨A,cap,rfl,hc,hr⟩:=Rd.of_own h;exact ⟨A,cap,rfl,hc,hr⟩
section
variable {P:Program}
theorem li {w:World} {ops:Array Oper} {rest:List Oper} {o:Oper} {a:Act} {Q:Exit->Act->World->Prop} (hgd:o.guard=none) (d s:Operand) (dT sT:TypeId)
  (ho:o.op=.call { callee:=.builtin .copy,args:=#[d,s],argTypes:=#[dT,sT] }) (elem:TypeId) (hu:P.underlying dT=some (.slice elem)) (hsz:(P.info? elem).map (·.size)=some 1)
  (g dLen dCap:Nat) (sp:Option Addr) (sLen sCap:Nat) (hd:a.eval d=Zs (some ⟨g,0,none⟩) dLen dCap) (hs:a.eval s=Zs sp sLen sCap)
  (cur:List Value) (t:TypeId) (hg:Blk w g t cur.toArray) (cs:List Value) (hr:Rd w sp cs) (hn:cs.length=sLen) (hle:cs.length<=dLen) (hfit:cs.length<=cur.length) (h1:∀ v ∈ cs,v.oneCell'=true)
  (h:∀ w',Blk w' g t (cs++cur.drop cs.length).toArray->w.grownBy w' (some g)->wpList P ops Q rest (a.put o.dst (goInt cs.length)) w'):wpList P ops Q (o::rest) a w:=by
 have hmin:Nat.min sLen dLen=cs.length:=by show min sLen dLen=cs.length;omega
 by_cases h0:cs=[]
 ·subst h0;refine wpList_copy_nothing hgd d s dT sT ho elem hu hsz (some ⟨g,0,none⟩) sp dLen dCap sLen sCap hd hs (by rw [hmin];rfl) ?_;exact h w (by simpa using hg) ⟨rfl,rfl,rfl,Nat.le_refl _,λ _ _ _=>rfl⟩
 ·obtain ⟨ad,rfl,hx⟩:=hr.at_ h0;refine wpList_copy_own hgd d s dT sT ho elem hu hsz g 0 dLen dCap ad sLen sCap hd hs cur.toArray t hg cs hmin.symm hx (by simpa using hfit) h1 ?_;have e:((cur.toArray.toList.take 0++(cs++cur.toArray.toList.drop (0+cs.length))).toArray)=(cs++cur.drop cs.length).toArray:=by simp
  rw [e];exact h _ (setRow_heap w g _ _ t _ hg) ⟨rfl,rfl,rfl,by simp [World.setRow],λ k _ hk=>setRow_other w g k _ (λ e=>hk (by rw [e]))⟩
variable (w:World)
theorem iI (base:Nat) (t ty e:TypeId) (i:TypeInfo) (size:Nat) (ht:P.underlying t=some (.slice e)) (hi:P.info? e=some i)
  (v:Value) (n:Nat) (xs:List Value) (hown:w.ownsRow base e size v n xs) (c:Nat):(Builtin.append_ #[t,t] ty #[v,Zs none 0 c]).run P w=.ok v w:=by
 rcases hown.2 with ⟨rfl,rfl⟩ | ⟨g,cap,cur,rfl,_,_,hnc,_⟩
 ·simp [Builtin.append_,run_underlying ht,sizeOf,typeInfo,hi,Builtin.lenOf,Builtin.firstCells]
 ·simp [Builtin.append_,run_underlying ht,sizeOf,typeInfo,hi,Builtin.lenOf,Builtin.firstCells,hnc,storeCells]
theorem eM (base:Nat) (t ty e:TypeId) (i:TypeInfo) (z:Value) (size bytes:Nat) (ht:P.underlying t=some (.slice e)) (hi:P.info? e=some i) (hz:i.zero=some z)
  (hsize:i.size=size) (hby:i.bytes=bytes) (hzs:z.cells.size=size) (hsz:0<size)
  (v:Value) (n:Nat) (xs:List Value) (hown:w.ownsRow base e size v n xs)
  (A:Option Addr) (m c:Nat) (hAm:A=none->m=0) (news:List Value) (hl:news.length=m*size) (hr:Rd w A news) (h1:∀ u ∈ news,u.oneCell'=true)
  (h63:n+m<=maxLen) (hbytes:(n+m)*bytes<=140737488355328) (hbase:base<=w.heap.size) :
  ∃ v' w',(Builtin.append_ #[t,t] ty #[v,Zs A m c]).run P w=.ok v' w'/\w'.ownsRow base e size v' (n+m) (xs++news)/\w.grownBy w' v.ownBlock /\
   (v'.ownBlock=v.ownBlock∨v'.ownBlock=some w.heap.size):=by
 rcases A with _ | ad
 ·have hm:=hAm rfl;subst hm;have hn:news=[]:=List.eq_nil_of_length_eq_zero (by simpa using hl);subst hn;exact ⟨v,w,iI w base t ty e i size ht hi v n xs hown c,by simpa using hown,World.grownBy.refl w _,.inl rfl⟩
 ·have hcells:∀ j u,news[j]? = some u->w.cell? (ad.add j)=some u:=by
   by_cases hn:news=[]
   ·subst hn;intro j u hu;simp at hu
   ·obtain ⟨ad',h,hc⟩:=hr.at_ hn;injection h with h
    subst h;exact hc
  obtain ⟨v',w',hrun,h2,h3,_,h5⟩:=run_append_own_at (P:=P) w base t ty e i z size bytes ht hi hz hsize hby hzs hsz v n xs hown ad m c news hl hcells h1 h63 hbytes hbase;exact ⟨v',w',hrun,h2,h3,h5⟩
theorem ej {o:Oper} {a:Act} {K:Act->World->Prop} {Q:Exit->Act->World->Prop} (s x:Operand) (t:TypeId)
  (ho:o.op=.call { callee:=.builtin .append,args:=#[s,x],argTypes:=#[t,t] })
  (base:Nat) (e:TypeId) (i:TypeInfo) (z:Value) (size bytes:Nat) (ht:P.underlying t=some (.slice e)) (hi:P.info? e=some i) (hz:i.zero=some z)
  (hsize:i.size=size) (hby:i.bytes=bytes) (hzs:z.cells.size=size) (hsz:0<size)
  (v:Value) (n:Nat) (xs:List Value) (hs:a.eval s=v) (hown:w.ownsRow base e size v n xs)
  (A:Option Addr) (m c:Nat) (hAm:A=none->m=0) (news:List Value) (hx:a.eval x=Zs A m c) (hl:news.length=m*size) (hr:Rd w A news) (h1:∀ u ∈ news,u.oneCell'=true)
  (h63:n+m<=maxLen) (hbytes:(n+m)*bytes<=140737488355328) (hbase:base<=w.heap.size)
  (h:∀ v' w',w'.ownsRow base e size v' (n+m) (xs++news)->w.grownBy w' v.ownBlock->(v'.ownBlock=v.ownBlock∨v'.ownBlock=some w.heap.size)->K (a.put o.dst v') w'):o.wp P a w K Q:=by
 obtain ⟨v',w',hrun,h2,h3,h4⟩:=eM (P:=P) w base t o.type e i z size bytes ht hi hz hsize hby hzs hsz v n xs hown A m c hAm news hl hr h1 h63 hbytes hbase;unfold Oper.wp execOp;simp only [ho,resolve,invoke,builtin,Sem.run_bind,Sem.run_pure,Result.andThen_ok,List.map_toArray,List.map_cons,List.map_nil,hs,hx,hrun];exact h v' w' h2 h3 h4
theorem aD {ops:Array Oper} {rest:List Oper} {o:Oper} {a:Act} {Q:Exit->Act->World->Prop} (hgd:o.guard=none) (s x:Operand) (t:TypeId)
  (ho:o.op=.call { callee:=.builtin .append,args:=#[s,x],argTypes:=#[t,t] })
  (base:Nat) (e:TypeId) (i:TypeInfo) (z:Value) (size bytes:Nat) (ht:P.underlying t=some (.slice e)) (hi:P.info? e=some i) (hz:i.zero=some z)
  (hsize:i.size=size) (hby:i.bytes=bytes) (hzs:z.cells.size=size) (hsz:0<size)
  (v:Value) (n:Nat) (xs:List Value) (hs:a.eval s=v) (hown:w.ownsRow base e size v n xs)
  (A:Option Addr) (m c:Nat) (hAm:A=none->m=0) (news:List Value) (hx:a.eval x=Zs A m c) (hl:news.length=m*size) (hr:Rd w A news) (h1:∀ u ∈ news,u.oneCell'=true)
  (h63:n+m<=maxLen) (hbytes:(n+m)*bytes<=140737488355328) (hbase:base<=w.heap.size)
  (h:∀ v' w',w'.ownsRow base e size v' (n+m) (xs++news)->w.grownBy w' v.ownBlock->(v'.ownBlock=v.ownBlock∨v'.ownBlock=some w.heap.size)->wpList P ops Q rest (a.put o.dst v') w'):wpList P ops Q (o::rest) a w :=
 wpList_plain hgd λ _ hK=>ej w s x t ho base e i z size bytes ht hi hz hsize hby hzs hsz v n xs hs hown A m c hAm news hx hl hr h1 h63 hbytes hbase λ v' w' h2 h3 h4=>hK _ _ (h v' w' h2 h3 h4)
end
theorem Blk.ne_ {w:World} {g g':Nat} {t t':TypeId} {cs cs':Array Value} (h:Blk w g t cs) (h':Blk w g' t' cs') (hne:t≠t'):g≠g':=by
 rintro rfl;unfold Blk at h h';rw [h] at h';injection h' with h'
 injection h' with _ ht
 exact hne ht
theorem dN {w:World} {g:Nat} {t:TypeId} {cs:Array Value} {base:Nat} {e:TypeId} {size n:Nat} {v:Value} {xs:List Value} (h:w.ownsRow base e size v n xs) (hg:Blk w g t cs) (hne:e≠t):some g≠v.ownBlock:=by
 rcases h.2 with ⟨rfl,_⟩ | ⟨g',cap,cur,rfl,_,hh,_⟩
 ·simp [Value.ownBlock]
 ·intro he;have:g'=g:=by simpa [Value.ownBlock] using he.symm
  subst this;exact Blk.ne_ (t:=e) hh hg hne rfl
theorem fS {w w':World} {g:Nat} {t:TypeId} {cs:Array Value} (h:Blk w g t cs) (h':Blk w' g t cs):w'.heap[g]? = w.heap[g]?:=by
 unfold Blk at h h';rw [h,h']
theorem qN (a b:List UInt8):aq (a++b)=aq a++aq b:=by simp [aq]
theorem qO (l:List UInt8):∀ v ∈ aq l,v.oneCell'=true:=by
 intro v hv;simp only [aq,List.mem_map] at hv;obtain ⟨c,_,rfl⟩:=hv;rfl
theorem gS {P:Program} (w:World) (src dst e:TypeId) (s:ByteArray) (hs:P.underlying src=some .string) (hd:P.underlying dst=some (.slice e)) (he:P.underlying e=some (.int .u8)) :
  ∃ (cap:Nat) (W1:World),(convert src dst (Zt s)).run P w=.ok (Zs (some ⟨w.heap.size,0,none⟩) s.size cap) W1/\s.size<=cap/\Below w.heap.size w W1/\W1.heap.size=w.heap.size+1 /\
   Rd W1 (some ⟨w.heap.size,0,none⟩) (aq (sl s)):=by
 refine ⟨_,_,run_bytes_of_string w src dst e s hs hd he,?_,?_,?_,?_⟩
 ·exact grownCap_ge _ _ _ _
 ·exact ⟨rfl,rfl,rfl,by simp,λ k hk=>by
   show (w.heap.push _)[k]? = _
   rw [Array.getElem?_push,if_neg (by omega)]⟩
 ·simp
 ·intro hn;refine ⟨w.heap.size,0,rfl,by simp,λ i hi=>?_⟩;have hlt:i<s.data.size:=by simpa [aq,sl] using hi
  have:=World.cell?_alloc_mark w.drew (bytesRow s (grownCap w s.size 0 e)) e ((bytesRow s (grownCap w s.size 0 e)).size,(bytesRow s (grownCap w s.size 0 e)).size+1) i;rw [Nat.zero_add];refine this.trans ?_;rw [bytesRow_at s _ i hlt];simp [aq,sl]
def aH (L:List (Nat × TypeId × Array Value)) (w0 W:World):Prop:=Below w0.heap.size w0 W/\∀ x ∈ L,Blk W x.1 x.2.1 x.2.2
section
variable {L:List (Nat × TypeId × Array Value)} {w0 W W':World} {g:Nat} {t:TypeId} {cs:Array Value} {x0 x1 x2 x3 x4 x5:Nat × TypeId × Array Value}
theorem aH.nil (w0:World):aH [] w0 w0:=⟨Below.refl _ _,λ x hx=>by cases hx⟩
theorem aH.keep (h:aH L w0 W) (hb:Below W.heap.size W W'):aH L w0 W':=⟨h.1.trans (hb.mono h.1.size),λ x hx=>(h.2 x hx).keep hb⟩
theorem aH.alloc (h:aH L w0 W) (o:Obj):aH L w0 (W.alloc o):=h.keep ((Below.refl _ W).alloc (Nat.le_refl _) o)
theorem aH.drewN (h:aH L w0 W) (n:Nat):aH L w0 (W.drewN n):=h.keep (ah (Below.refl _ W) n)
theorem aH.drew (h:aH L w0 W):aH L w0 W.drew:=h.keep (Below.refl _ W).drew
theorem aH.push (h:aH L w0 W) (t:TypeId) (cs:Array Value) (hg:W.heap.size=g):aH ((g,t,cs)::L) w0 (W.alloc (.cells cs t)):=by
 refine ⟨(h.alloc _).1,λ x hx=>?_⟩;rcases List.mem_cons.1 hx with rfl | hx
 ·subst hg;exact Blk.new W t cs
 ·exact (h.alloc _).2 x hx
theorem aH.pop (h:aH (x0::L) w0 W):aH L w0 W:=⟨h.1,λ x hx=>h.2 x (List.mem_cons_of_mem _ hx)⟩
theorem aH.b0 (h:aH ((g,t,cs)::L) w0 W):Blk W g t cs:=h.2 _ (List.mem_cons_self ..)
theorem aH.b1 (h:aH (x0::(g,t,cs)::L) w0 W):Blk W g t cs:=h.pop.b0
theorem aH.b2 (h:aH (x0::x1::(g,t,cs)::L) w0 W):Blk W g t cs:=h.pop.b1
theorem aH.b3 (h:aH (x0::x1::x2::(g,t,cs)::L) w0 W):Blk W g t cs:=h.pop.b2
theorem aH.b4 (h:aH (x0::x1::x2::x3::(g,t,cs)::L) w0 W):Blk W g t cs:=h.pop.b3
theorem aH.b5 (h:aH (x0::x1::x2::x3::x4::(g,t,cs)::L) w0 W):Blk W g t cs:=h.pop.b4
theorem aH.b6 (h:aH (x0::x1::x2::x3::x4::x5::(g,t,cs)::L) w0 W):Blk W g t cs:=h.pop.b5
theorem aH.old (h:aH L w0 W) {k:Nat} (hb:Blk w0 k t cs):Blk W k t cs:=hb.keep h.1
theorem aH.set_ (h:aH ((g,t,cs)::L) w0 W) (i:Nat) (u:Value) (h0:w0.heap.size<=g) (hL:∀ x ∈ L,x.1≠g):aH ((g,t,cs.setIfInBounds i u)::L) w0 (W.setCell ⟨g,i,none⟩ u):=by
 refine ⟨h.1.setCell (p:=⟨g,i,none⟩) h0 u,λ x hx=>?_⟩;rcases List.mem_cons.1 hx with rfl | hx
 ·exact h.b0.set_ i u
 ·exact (h.pop.2 x hx).far (hL x hx) u
end
end
end Go.Proofs.YtgmnmnnoahdjnaaGreatDoor
