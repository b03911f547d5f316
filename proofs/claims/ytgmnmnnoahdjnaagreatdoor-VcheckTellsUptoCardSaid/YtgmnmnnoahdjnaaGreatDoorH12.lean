import Derived.Test.YtgmnmnnoahdjnaaGreatDoorH08
import Derived.Test.YtgmnmnnoahdjnaaGreatDoorH05
open Go.Value renaming int → Zi, slice → Zs, string → Zt, pointer → Zp
open Go.IntKind renaming i64 → Zq
set_option maxRecDepth 100000
set_option maxHeartbeats 16000000
set_option linter.unusedVariables false
set_option linter.unusedSimpArgs false
namespace Go.Proofs.YtgmnmnnoahdjnaaGreatDoor
section
open Go.RowKit
attribute [local go_sem] ab ae af ac
theorem gV (q:Nat) (w:World):Calls Tryz.prog 122 #[Zi .u8 q] w λ e w'=>e=.returned (.bool (decide (97<=q/\q<=122)))/\w=w':=by
 go_enter Tryz.func122,Tryz.ntmps122;go_wp2
 all_goals
  go_ret;exact ⟨ak (by rw [Bool.eq_iff_iff];simp;try omega),rfl⟩
theorem iY (q:Nat) (w:World):Calls Tryz.prog 123 #[Zi .u8 q] w λ e w'=>e=.returned (.bool (decide (48<=q/\q<=57)))/\w=w':=by
 go_enter Tryz.func123,Tryz.ntmps123;go_wp2
 all_goals
  go_ret;exact ⟨ak (by rw [Bool.eq_iff_iff];simp;try omega),rfl⟩
theorem sZ (q:Nat) (w:World):Calls Tryz.prog 130 #[Zi .u8 q] w λ e w'=>e=.returned (.bool (decide (q=34)))/\w=w':=by
 go_enter Tryz.func130,Tryz.ntmps130;go_wp2;go_ret;exact ⟨ak (by rw [Bool.eq_iff_iff];simp;omega),rfl⟩
theorem qV (q:Nat) (w:World):Calls Tryz.prog 132 #[Zi .u8 q] w λ e w'=>e=.returned (.bool true)/\w=w':=by
 go_enter Tryz.func132,Tryz.ntmps132;go_wp2;go_ret;exact ⟨rfl,rfl⟩
theorem rx {a b:ByteArray} (h:(a.toList == b.toList)=true):a=b:=by
 have:a.toList=b.toList:=by simpa using h
 rw [ByteArray.toList_eq,ByteArray.toList_eq] at this;exact jW this
theorem ry {a b:ByteArray} (h:(a.toList == b.toList)=false):a≠b:=by rintro rfl;simp at h
def cT:List (List UInt8):=[[101,109,105,116],[105,102],[101,108,115,101],[102,111,114],[105,110],[111,114],[97,110,100],[110,111,116],[115,105,122,101],[107,105,110,100],[116,114,117,101],[102,97,108,115,101],[110,117,108,108]]
def t0:Value:=.agg (cT.map λ l=>Value.string ⟨l.toArray⟩).toArray
theorem rJ (w:World):Calls Tryz.prog 163 #[] w λ e w'=>e=.returned t0/\Below w.heap.size w w':=by
 go_enter Tryz.func163,Tryz.ntmps163;go_wp2;go_returns;exact ⟨rfl,by go_grown⟩
theorem t6 (k:Nat) (h:k<13) (w:World):(Instr.index 195 t0 (Zi Zq (k:Int))).run Tryz.prog w=.ok (Zt ⟨(cT.getD k []).toArray⟩) w:=by
 rcases (by omega:k=0∨k=1∨k=2∨k=3∨k=4∨k=5∨k=6∨k=7∨k=8∨k=9∨k=10∨k=11∨k=12) with rfl | rfl | rfl | rfl | rfl | rfl | rfl | rfl | rfl | rfl | rfl | rfl | rfl<;>kernel_rfl
def dp (l:List UInt8):Bool:=decide (l ∈ cT)
theorem jZ (s:ByteArray) (w:World):Calls Tryz.prog 124 #[Zt s] w λ e w'=>e=.returned (.bool (dp (sl s)))/\Below w.heap.size w w':=by
 go_enter Tryz.func124,Tryz.ntmps124;go_wp2_with (go_at_call 163;refine (rJ _).mono ?_;rintro e w1 ⟨rfl,hb⟩);go_loopw [4,6] (λ _ i wr => ∃ k:Nat,k<=13/\i=Zi Zq k/\wr=w1/\∀ j,j<k->cT.getD j []≠sl s) (λ _ i _=>13-(intOf i).toNat)
 case atStart=>exact ⟨0,by omega,rfl,rfl,by intro j hj;omega⟩
 case round =>
  obtain ⟨k,hk,rfl,rfl,hno⟩:=hrel;have HN:=aW hno;clear hno;by_cases h13:k<13
  ·have hix:=t6 k h13 wr;obtain ⟨x,hx⟩:∃ x:ByteArray,⟨(cT.getD k []).toArray⟩=x:=⟨_,rfl⟩
   rw [hx] at hix;have HX:=aW hx;clear hx;go_wp2
   ·have hq:x=s:=rx ‹(x.toList == s.toList)=true›;go_ret;refine ⟨ak ?_,hb⟩;have:sl s ∈ cT:=by
     rw [← hq,← HX.out,jG,List.getD_eq_getElem?_getD,List.getElem?_eq_getElem (show k<cT.length from h13)];exact List.getElem_mem _
    simp [dp,this]
   ·have hq:x≠s:=ry ‹(x.toList == s.toList)=false›;go_roundw
    case rel =>
     refine ⟨k+1,by omega,by go_num,trivial,?_⟩;intro j hj;by_cases hjk:j=k
     ·rw [hjk];intro e;exact hq (by rw [← HX.out,e])
     ·exact HN.out j (by omega)
    case measure=>simp [intOf];omega
  ·obtain rfl:k=13:=by omega
   go_wp2;go_ret;refine ⟨ak ?_,hb⟩;have:sl s ∉ cT:=λ hm=>by
    obtain ⟨j,hj,e⟩:=List.getElem_of_mem hm;exact HN.out j hj (by rw [List.getD_eq_getElem?_getD,List.getElem?_eq_getElem hj];exact e)
   simp [dp,this]
def bi (c:UInt8):Bool:=decide (97<=c.toNat/\c.toNat<=122)
def aO:Nat->List UInt8->Bool
 | _,[]=>true
 | i,c::r=>(bi c || (decide (0<i) && cD c)) && aO (i+1) r
def bm (s:ByteArray):Bool:=aO 0 (sl s) && (decide (1<=s.size/\s.size<=12) && !dp (sl s))
theorem eR (w:World) (s:ByteArray) (p:Nat):Below w.heap.size w (w.iter s p):=(Below.refl _ w).alloc (Nat.le_refl _) _
theorem fG (s:ByteArray) (w:World):Calls Tryz.prog 81 #[Zt s] w λ e w'=>e=.returned (.bool (bm s))/\Below w.heap.size w w':=by
 go_enter Tryz.func81,Tryz.ntmps81;go_wp2;go_loopw [3] (λ _ wr => ∃ pos:Nat,wr=w.iter s pos/\pos<=s.size/\aO 0 (sl s)=aO pos ((sl s).drop pos)) (λ _ wr=>s.size-wr.iterPos w.heap.size)
 case atStart=>exact ⟨0,rfl,by omega,by simp⟩
 case round =>
  obtain ⟨pos,rfl,hp,hn⟩:=hrel;by_cases hlt:pos<s.size
  ·have hnext:=λ ty=>run_next_any (P:=Tryz.prog) w s pos ty hlt
   have hd:(sl s).drop pos=s[pos]::(sl s).drop (pos+1):=List.drop_eq_getElem_cons (by rw [cd];exact hlt);rw [hd] at hn;obtain ⟨c,hc⟩:∃ c,s[pos]=c:=⟨_,rfl⟩
   by_cases hhi:128<=c.toNat
   ·have h1:=(decode_high s pos hlt (by rw [hc];exact hhi)).1;obtain ⟨⟨r,k⟩,hr⟩:∃ r,Utf8.decode s pos=r:=⟨_,rfl⟩
    rw [hr] at hnext h1;have HF:=aW (show aO 0 (sl s)=false by
     rw [hn,hc,aO];have e1:bi c=false:=by simp [bi];omega
     have e2:cD c=false:=by simp [cD];omega
     rw [e1,e2];simp)
    clear hn hd hc hr;obtain ⟨x,hx⟩:∃ x:Int,(r:Int)=x:=⟨_,rfl⟩
    rw [hx] at hnext;have h2:128<=x:=by omega
    clear hx;go_wp2;go_ret;exact ⟨ak (by rw [bm,HF.out];rfl),eR w s _⟩
   ·have h1:=decode_ascii s pos hlt (by rw [hc];omega);rw [hc] at h1;rw [h1] at hnext;obtain ⟨b1,hb1⟩:∃ b,bi c=b:=⟨_,rfl⟩
    obtain ⟨b2,hb2⟩:∃ b,cD c=b:=⟨_,rfl⟩
    have hl:=λ w=>gV c.toNat w
    have hg:=λ w=>iY c.toNat w
    rw [show decide (97<=c.toNat/\c.toNat<=122)=b1 from hb1] at hl;rw [show decide (48<=c.toNat/\c.toNat<=57)=b2 from hb2] at hg;have HL:=aW hl;have HG:=aW hg;have hnf:aO 0 (sl s)=((b1 || (decide (0<pos) && b2)) && aO (pos+1) ((sl s).drop (pos+1))):=by rw [hn,hc,aO,hb1,hb2]
    have HF:=aW hnf;clear hn hd hc h1 hl hg hnf hb1 hb2;have hc128:c.toNat<128:=by omega
    clear hhi;obtain ⟨q,hq⟩:∃ q,c.toNat=q:=⟨_,rfl⟩
    rw [hq] at hnext hc128 HL HG;clear hq;cases b1
    ·by_cases h0:pos=0
     ·subst h0;go_wp2_with (first | (go_at_call 122;refine (HL.out _).mono ?_;rintro e w1 ⟨rfl,rfl⟩) | (go_at_call 123;refine (HG.out _).mono ?_;rintro e w1 ⟨rfl,rfl⟩));go_ret;exact ⟨ak (by rw [bm,HF.out];rfl),eR w s _⟩
     ·have hp0:((pos:Int) == 0)=false:=by simp;omega
      cases b2
      ·go_wp2_with (first | (go_at_call 122;refine (HL.out _).mono ?_;rintro e w1 ⟨rfl,rfl⟩) | (go_at_call 123;refine (HG.out _).mono ?_;rintro e w1 ⟨rfl,rfl⟩));go_ret;exact ⟨ak (by rw [bm,HF.out];simp),eR w s _⟩
      ·go_wp2_with (first | (go_at_call 122;refine (HL.out _).mono ?_;rintro e w1 ⟨rfl,rfl⟩) | (go_at_call 123;refine (HG.out _).mono ?_;rintro e w1 ⟨rfl,rfl⟩));go_roundw
       case rel=>exact ⟨pos+1,rfl,hlt,by rw [HF.out];simp;omega⟩
       case measure=>simp;omega
    ·go_wp2_with (first | (go_at_call 122;refine (HL.out _).mono ?_;rintro e w1 ⟨rfl,rfl⟩) | (go_at_call 123;refine (HG.out _).mono ?_;rintro e w1 ⟨rfl,rfl⟩));go_roundw
     case rel=>exact ⟨pos+1,rfl,hlt,by rw [HF.out];simp⟩
     case measure=>simp;omega
  ·obtain rfl:pos=s.size:=by omega
   have hnext:=λ ty=>run_next_end (P:=Tryz.prog) w s s.size ty hlt
   have hnf:aO 0 (sl s)=true:=by rw [hn,List.drop_eq_nil_of_le (by rw [cd];exact Nat.le_refl _),aO]
   have HF:=aW hnf;clear hn hnf;obtain ⟨b,hb⟩:∃ b,dp (sl s)=b:=⟨_,rfl⟩
   have hw:=λ w=>jZ s w
   rw [hb] at hw;have HW:=aW hw;have HB:=aW hb;clear hw hb;go_wp2_with (go_at_call 124;refine (HW.out _).mono ?_;rintro e w1 ⟨rfl,hb1⟩)
   ·go_ret;refine ⟨ak ?_,(eR w s _).trans (hb1.mono (by simp [World.iter]))⟩;have h1:1<=(s.size:Int):=by assumption
    have h2:(s.size:Int)<=12:=by assumption
    rw [bm,HF.out,HB.out,decide_eq_true (show 1<=s.size/\s.size<=12 by omega)];rfl
   ·go_ret;have h2:12<(s.size:Int):=by assumption
    exact ⟨ak (by rw [bm,HF.out,decide_eq_false (show ¬ (1<=s.size/\s.size<=12) by omega)];rfl),eR w s _⟩
   ·go_ret;have h2:(s.size:Int)<1:=by assumption
    exact ⟨ak (by rw [bm,HF.out,decide_eq_false (show ¬ (1<=s.size/\s.size<=12) by omega)];rfl),eR w s _⟩
abbrev al:=Int × Nat × List UInt8 × Int
def jO (x:al):List Value:=[Zi Zq x.1,Zi Zq x.2.1,Zt ⟨x.2.2.1.toArray⟩,Zi Zq x.2.2.2]
def aS (ts:List al):List Value:=ts.flatMap jO
theorem eN (x:al) (ts:List al):aS (x::ts)=jO x++aS ts:=rfl
theorem mV (a b:List al):aS (a++b)=aS a++aS b:=by simp [aS]
theorem ee:∀ ts:List al,(aS ts).length=ts.length*4
 | []=>rfl
 | x::ts=>by rw [eN,List.length_append,ee ts];simp [jO];omega
theorem iR:∀ {ts:List al} {i:Nat} {x:al} (_:ts[i]? = some x) {j:Nat} (_:j<4),(aS ts)[i*4+j]? = (jO x)[j]?
 | [],i,x,h,_,_=>by simp at h
 |y::ts,0,x,h,j,hj=>by
  have:y=x:=by simpa using h
  subst this;rw [eN,Nat.zero_mul,Nat.zero_add,List.getElem?_append_left (by simp [jO];omega)]
 |y::ts,i+1,x,h,j,hj=>by
  have h':ts[i]? = some x:=by simpa using h
  rw [eN,List.getElem?_append_right (by simp [jO];omega),← iR h' hj];congr 1;simp [jO];omega
def TS (w:World) (v:Value) (ts:List al):Prop:=∃ A cap,v=Zs A ts.length cap/\ts.length<=cap/\Rd w A (aS ts)
theorem TS.below {w w':World} {v:Value} {ts:List al} (h:TS w v ts) (hb:Below w.heap.size w w'):TS w' v ts:=by
 obtain ⟨A,cap,rfl,hc,hr⟩:=h;exact ⟨A,cap,rfl,hc,hr.below hb⟩
theorem TS.drewN {w:World} {v:Value} {ts:List al} (h:TS w v ts) (n:Nat):TS (w.drewN n) v ts:=h
theorem TS.alloc {w:World} {v:Value} {ts:List al} (h:TS w v ts) (o:Obj):TS (w.alloc o) v ts:=h.below ((Below.refl _ w).alloc (Nat.le_refl _) o)
theorem TS.nil {w:World}:TS w (Zs none 0 0) []:=⟨none,0,rfl,Nat.le_refl _,Rd.nil⟩
theorem Rd.tok {w:World} {A:Option Addr} {ts:List al} (h:Rd w A (aS ts)) {i:Nat} {x:al} (hx:ts[i]? = some x) :
  ∃ b o,A=some ⟨b,o,none⟩/\b<w.heap.size/\w.cell? ⟨b,o+i*4,none⟩=some (Zi Zq x.1)/\w.cell? ⟨b,o+i*4+1,none⟩=some (Zi Zq x.2.1) /\
   w.cell? ⟨b,o+i*4+2,none⟩=some (Zt ⟨x.2.2.1.toArray⟩)/\w.cell? ⟨b,o+i*4+3,none⟩=some (Zi Zq x.2.2.2):=by
 have hi:i<ts.length:=(List.getElem?_eq_some_iff.1 hx).1;obtain ⟨b,o,rfl,hb,hc⟩:=h (by intro e;have h3:=ee ts;rw [e,List.length_nil] at h3;omega);have key:∀ j v,j<4->(jO x)[j]? = some v->w.cell? ⟨b,o+i*4+j,none⟩=some v:=λ j v hj hv=>by
  have h1:=iR hx hj;rw [hv] at h1;obtain ⟨hlt,e⟩:=List.getElem?_eq_some_iff.1 h1;rw [Nat.add_assoc,hc _ hlt,e]
 exact ⟨b,o,rfl,hb,key 0 _ (by omega) rfl,key 1 _ (by omega) rfl,key 2 _ (by omega) rfl,key 3 _ (by omega) rfl⟩
theorem dP {a b:List UInt8}:((⟨a.toArray⟩:ByteArray).toList == (⟨b.toArray⟩:ByteArray).toList)=decide (a=b):=by
 rw [ByteArray.toList_eq,ByteArray.toList_eq,Bool.eq_iff_iff];simp
theorem BS.dropN {w:World} {b o n cap:Nat} {l:List UInt8} (h:Rd w (some ⟨b,o,none⟩) (aq l)) (hcap:l.length<=cap) (k:Nat) (hk:k<=l.length):BS w (Zs (some ⟨b,o+k,none⟩) (l.length-k) (cap-k)) (l.drop k):=by
 refine ⟨_,_,by rw [List.length_drop],by rw [List.length_drop];omega,?_⟩;have h1:=h.drop k;have e:((some (⟨b,o,none⟩:Addr)).map λ a=>a.add k)=some ⟨b,o+k,none⟩:=by
  simp only [Option.map_some,Option.some.injEq];unfold Addr.add;split<;>simp_all
 rw [e] at h1;simpa [aq,List.map_drop] using h1
end
section
open Go.RowKit
end
section
open Go.RowKit
attribute [local go_sem] ab ae af ac
theorem uF:(Tryz.prog.info? 3).map (λ i=>(i.zero,i.size,i.bytes))=some (some (Zi Zq 0),1,8):=by kernel_rfl
def uH (l:List Int):List Value:=l.map (Value.int .i64)
theorem nK {w w':World} (h:Below w.heap.size w w'):w.grownBy w' none:=⟨h.os,h.tape,h.output,h.size,λ k hk _=>h.block k hk⟩
theorem ri {w w':World} {base:Nat} {e:TypeId} {size n:Nat} {v:Value} {xs:List Value} (h:w.ownsRow base e size v n xs) (hb:Below w.heap.size w w'):w'.ownsRow base e size v n xs :=
 h.kept (nK hb) (by cases v.ownBlock<;>simp)
def bN (A:Option Addr) (n cap:Nat) (p why:Int):Array Value:=#[Zi Zq p,Zi Zq why,Zs A n cap]
def VB (w:World) (g:Nat) (A:Option Addr) (cap:Nat) (l:List UInt8) (p why:Int):Prop:=Blk w g 113 (bN A l.length cap p why)/\Rd w A (aq l)
def aJ (w:World) (g:Nat) (A:Option Addr) (cap:Nat) (l:List UInt8) (p why:Int) (w':World):Prop:=VB w' g A cap l p why/\w.grownBy w' (some g)
section
variable {w w':World} {g:Nat} {A:Option Addr} {cap:Nat} {l:List UInt8} {p why p' why':Int}
theorem mf {m:Nat}:∀ (i:Nat) (c:Int),(bN A m cap p why)[i]? = some (Value.int .u8 c)->False:=by
 intro i c h;unfold bN at h
 match i with
 | 0 | 1 | 2=>simp at h
 | i+3=>simp at h
theorem VB.drewN (h:VB w g A cap l p why) (k:Nat):VB (w.drewN k) g A cap l p why:=⟨h.1.drewN k,h.2.drewN k⟩
theorem VB.keep (h:VB w g A cap l p why) (hb:Below w.heap.size w w'):VB w' g A cap l p why:=⟨h.1.keep hb,h.2.below hb⟩
theorem VB.set0 (h:VB w g A cap l p why) (q:Int):VB (w.setCell ⟨g,0,none⟩ (Zi Zq q)) g A cap l q why :=
 ⟨by have:=h.1.set_ 0 (Zi Zq q);simpa [bN] using this,h.2.setCell (h.2.ne_blk h.1 mf) _ _⟩
theorem VB.set1 (h:VB w g A cap l p why) (q:Int):VB (w.setCell ⟨g,1,none⟩ (Zi Zq q)) g A cap l p q :=
 ⟨by have:=h.1.set_ 1 (Zi Zq q);simpa [bN] using this,h.2.setCell (h.2.ne_blk h.1 mf) _ _⟩
theorem aJ.refl (h:VB w g A cap l p why):aJ w g A cap l p why w:=⟨h,ec _ _⟩
theorem aJ.trans {w'':World} (h:aJ w g A cap l p why w') (k:aJ w' g A cap l p' why' w''):aJ w g A cap l p' why' w'':=⟨k.1,ag h.2 k.2⟩
theorem aJ.drewN (h:aJ w g A cap l p why w') (k:Nat):aJ w g A cap l p why (w'.drewN k):=⟨h.1.drewN k,e7 h.2 k⟩
theorem aJ.keep {w'':World} (h:aJ w g A cap l p why w') (hb:Below w'.heap.size w' w''):aJ w g A cap l p why w'' :=
 ⟨h.1.keep hb,ag h.2 ⟨hb.os,hb.tape,hb.output,hb.size,λ i hi _=>hb.block i hi⟩⟩
theorem aJ.set0 (h:aJ w g A cap l p why w') (q:Int):aJ w g A cap l q why (w'.setCell ⟨g,0,none⟩ (Zi Zq q)):=⟨h.1.set0 q,bt h.2 _ _⟩
theorem aJ.set1 (h:aJ w g A cap l p why w') (q:Int):aJ w g A cap l p q (w'.setCell ⟨g,1,none⟩ (Zi Zq q)):=⟨h.1.set1 q,bt h.2 _ _⟩
theorem aJ.alloc (h:aJ w g A cap l p why w') (o:Obj):aJ w g A cap l p why (w'.alloc o):=h.keep ((Below.refl _ _).alloc (Nat.le_refl _) _)
theorem aJ.new (h:aJ w g A cap l p why w') {k:Nat} {t:TypeId} {cs:Array Value} (hb:Blk w' k t cs) (hcs:∀ (i:Nat) (c:Int),cs[i]? = some (Value.int .u8 c)->False) (hk:w.heap.size<=k) (hg:g<w.heap.size) (i:Nat) (u:Value) :
  aJ w g A cap l p why (w'.setCell ⟨k,i,none⟩ u) :=
 ⟨⟨h.1.1.far (p:=⟨k,i,none⟩) (by simp;omega) u,h.1.2.setCell (h.1.2.ne_blk hb hcs) i u⟩,cR h.2 _ _ hk⟩
end
def rz (k:Int) (p:Int) (s:ByteArray) (n:Int):Value:=.agg #[Zi Zq k,Zi Zq p,Zt s,Zi Zq n]
def fA:Value:=.agg #[Zi Zq 0,Zi Zq 0,Zt ⟨#[]⟩,Zi Zq 0]
theorem eY (w:World) (g:Nat) (A:Option Addr) (cap:Nat) (l:List UInt8) (p why q e:Int) (hV:VB w g A cap l p why) :
  Calls Tryz.prog 167 #[Zp (some ⟨g,0,none⟩),Zi Zq q,Zi Zq e] w λ x w'=>x=.returned fA/\aJ w g A cap l q e w':=by
 obtain ⟨hc,hf,hlt⟩:=hV.1.rules;have HV:=aW hV;clear hV;unfold bN at hc;go_enter Tryz.func167,Tryz.ntmps167;go_wp2;go_returns;exact ⟨rfl,(((aJ.refl HV.out).set0 q).set1 e).alloc _⟩
theorem VB.byte {w:World} {g:Nat} {A:Option Addr} {cap:Nat} {l:List UInt8} {p why:Int} (h:VB w g A cap l p why) {k:Nat} {c:UInt8} (hc:l[k]? = some c) :
  ∃ b o,A=some ⟨b,o,none⟩/\b<w.heap.size/\w.cell? ⟨b,o+k,none⟩=some (Zi .u8 c.toNat):=by
 obtain ⟨hlt,e⟩:=List.getElem?_eq_some_iff.1 hc;obtain ⟨b,o,rfl,hb,hx⟩:=h.2 (by intro e;have h3:=aA l;rw [e,List.length_nil] at h3;omega);exact ⟨b,o,rfl,hb,by rw [hx k (by rw [aA];exact hlt)];simp [aq,e]⟩
theorem ou (w:World) (g:Nat) (A:Option Addr) (cap:Nat) (l:List UInt8) (p:Nat) (why:Int) (hV:VB w g A cap l p why) (hp:p<=l.length) (hcap:l.length<=cap) (hlen:l.length<=4194304) :
  Calls Tryz.prog 135 #[Zp (some ⟨g,0,none⟩)] w λ e w'=>e=.returned (.tuple #[])/\aJ w g A cap l (bM l p) why w':=by
 have HV:=aW hV;clear hV;go_enter Tryz.func135,Tryz.ntmps135;go_wp2;go_loopg [24] (l.length-p) (λ gk _ wr => ∃ k:Nat,k<=l.length/\gk=l.length-k/\bM l p=bM l k/\aJ w g A cap l k why wr)
 case atStart=>exact ⟨p,hp,rfl,rfl,aJ.refl HV.out⟩
 case round =>
  obtain ⟨k,hk,hgk,hs,hst⟩:=hrel;obtain ⟨hc,hf,hlt⟩:=hst.1.1.rules;unfold bN at hc;have HS:=aW hs;have HG:=aW hgk;clear hs hgk;by_cases hkl:k<l.length
  ·obtain ⟨c,hcc⟩:∃ c,l[k]? = some c:=⟨_,List.getElem?_eq_getElem hkl⟩
   obtain ⟨b,o,rfl,hb,hx⟩:=hst.1.byte hcc;have HC:=aW hcc;clear hcc;cases hbk:ep c with
   |true =>
    have HN:=aW (pJ HC.out hbk);unfold ep at hbk;have hq:c.toNat=9∨c.toNat=10∨c.toNat=13∨c.toNat=32:=by simpa using hbk
    clear hbk;rcases hq with hq | hq | hq | hq
    all_goals
     rw [hq] at hx;clear hq;go_wp2;go_quiet (fail);go_wp2;go_quiet (fail);go_wp2;go_roundg (l.length-(k+1))
     case measure=>rw [HG.out];omega
     case rel=>exact ⟨k+1,hkl,rfl,HS.out.trans HN.out,(hst.drewN _).set0 _⟩
   |false =>
    have HN:=aW (pK HC.out hbk);unfold ep at hbk;have hq:¬ (c.toNat=9∨c.toNat=10∨c.toNat=13∨c.toNat=32):=by simpa using hbk
    clear hbk;have q1:((c.toNat:Int) == 9)=false:=by simp;omega
    have q2:((c.toNat:Int) == 10)=false:=by simp;omega
    have q3:((c.toNat:Int) == 13)=false:=by simp;omega
    have q4:((c.toNat:Int) == 32)=false:=by simp;omega
    clear hq;go_wp2;go_quiet (fail);go_wp2;go_quiet (fail);go_wp2;refine bodyPost_ret (results_none rfl _ _ _) rfl ⟨rfl,?_⟩;rw [HS.out,HN.out];exact hst.drewN _
  ·have HN:=aW (ru (l:=l) (p:=k) (by omega));obtain rfl:k=l.length:=by omega
   clear hkl;go_wp2;go_quiet (fail);go_wp2;go_end0;refine ⟨rfl,?_⟩;rw [HS.out,HN.out];exact hst.drewN _
theorem uG:(Tryz.prog.info? 86).map (λ i=>(i.zero,i.size,i.bytes))=some (some (.agg #[Zi Zq 0,Zi Zq 0,Zt ⟨#[]⟩,Zi Zq 0]),4,40):=by kernel_rfl
theorem mW (ts:List al):∀ v ∈ aS ts,v.oneCell'=true:=by
 intro v hv;simp only [aS,List.mem_flatMap] at hv;obtain ⟨x,_,hx⟩:=hv;simp only [jO,List.mem_cons,List.not_mem_nil,or_false] at hx;rcases hx with rfl | rfl | rfl | rfl<;>rfl
theorem TS.of_own {w:World} {base:Nat} {e:TypeId} {v:Value} {n:Nat} {ts:List al} (h:w.ownsRow base e 4 v n (aS ts)):TS w v ts:=by
 obtain ⟨A,cap,rfl,hc,hr⟩:=Rd.of_own h;have h1:=h.1;rw [ee] at h1;obtain rfl:n=ts.length:=by omega
 exact ⟨A,cap,rfl,hc,hr⟩
theorem qx {a b:ByteArray} (h:(a.toList == b.toList)=true):a=b:=by
 have:a.toList=b.toList:=by simpa using h
 rw [ByteArray.toList_eq,ByteArray.toList_eq] at this;exact jW this
theorem qy {a b:ByteArray} (h:(a.toList == b.toList)=false):a≠b:=by rintro rfl;simp at h
theorem oz (c:UInt8) (t:ByteArray) (w:World) (ht:t.size<=4194304):Calls Tryz.prog 88 #[Zi .u8 c.toNat,Zt t] w λ e w'=>e=.returned (.bool ((sl t).contains c))/\w=w':=by
 obtain ⟨b,hb⟩:∃ b,(sl t).contains c=b:=⟨_,rfl⟩
 rw [hb];have HB:=aW hb;clear hb;go_enter Tryz.func88,Tryz.ntmps88;go_wp2;go_loop [5] (λ i => ∃ k:Nat,k<=t.size/\i=Zi Zq k/\b=((sl t).drop k).contains c) (λ i=>t.size-(intOf i).toNat)
 case atStart=>exact ⟨0,Nat.zero_le _,rfl,by rw [← HB.out];simp⟩
 case round =>
  obtain ⟨k,hk,rfl,hc⟩:=hrel;by_cases hlt:k<t.size
  ·have hd:(sl t).drop k=t[k]::(sl t).drop (k+1):=List.drop_eq_getElem_cons (by rw [cd];exact hlt);rw [hd] at hc;obtain ⟨x,hx⟩:∃ x,t[k]=x:=⟨_,rfl⟩
   rw [hx] at hc;have HC:=aW hc;clear hc hd;by_cases hxc:x=c
   ·subst hxc;go_wp2;go_ret;exact ⟨ak (by rw [HC.out];simp),rfl⟩
   ·have hne:((x.toNat:Int) == (c.toNat:Int))=false:=by
     have:x.toNat≠c.toNat:=λ e=>hxc (UInt8.toNat_inj.1 e)
     simp;omega
    go_wp2;go_round
    case rel=>exact ⟨k+1,hlt,by go_num,by rw [HC.out,List.contains_cons];simp;intro h;exact absurd h.symm hxc⟩
    case measure=>simp [intOf];omega
  ·obtain rfl:k=t.size:=by omega
   have HC:=aW hc;clear hc;go_wp2;go_ret;exact ⟨ak (by rw [HC.out,List.drop_eq_nil_of_le (by rw [cd];exact Nat.le_refl _)];rfl),rfl⟩
def eu:List UInt8->List UInt8->List (List UInt8)
 | [],acc=>[acc]
 | c::r,acc=>if c=32 then acc::eu r [] else eu r (acc++[c])
theorem vV (t:ByteArray) (f k:Nat):sl (t.extract f k)=((sl t).drop f).take (k-f):=by
 simp [sl,List.drop_take]
theorem si {l:List UInt8} {f k:Nat} {c:UInt8} (hf:f<=k) (h:l[k]? = some c):(l.drop f).take (k+1-f)=(l.drop f).take (k-f)++[c]:=by
 rw [show k+1-f=(k-f)+1 from by omega,List.take_add_one,List.getElem?_drop,show f+(k-f)=k from by omega,h];rfl
theorem pA (s t:ByteArray) (w:World) (ht:t.size<=4194304):Calls Tryz.prog 144 #[Zt s,Zt t] w λ e w'=>e=.returned (.bool (decide (sl s ∈ eu (sl t) [])))/\w=w':=by
 obtain ⟨bb,hb⟩:∃ b,decide (sl s ∈ eu (sl t) [])=b:=⟨_,rfl⟩
 rw [hb];have HB:=aW (show (sl s ∈ eu (sl t) []) ↔ bb=true by rw [← hb];simp);clear hb;go_enter Tryz.func144,Tryz.ntmps144;go_wp2;go_loop [5,6] (λ fr i => ∃ f k:Nat,k<=t.size+1/\f<=k/\fr=Zi Zq f/\i=Zi Zq k/\(k<=t.size->Hid (bb=true ↔ sl s ∈ eu ((sl t).drop k) (((sl t).drop f).take (k-f))))/\(k=t.size+1->Hid (bb=false))) (λ _ i=>t.size+1-(intOf i).toNat)
 case atStart=>exact ⟨0,0,Nat.zero_le _,Nat.le_refl _,rfl,rfl,λ _=>aW (by rw [← HB.out];simp),λ h=>by omega⟩
 case round =>
  obtain ⟨f,k,hk,hf,rfl,rfl,h1,h2⟩:=hrel;by_cases hle:k<=t.size
  ·have h1:=(h1 hle).out;have hcut:=vV t f k;obtain ⟨a,ha⟩:∃ a,t.extract f k=a:=⟨_,rfl⟩
   rw [ha] at hcut;rw [← hcut] at h1;have HCUT:=aW hcut;clear h2 hcut;by_cases hlt:k<t.size
   ·have hget:=wZ t k hlt;have hd:(sl t).drop k=t[k]::(sl t).drop (k+1):=List.drop_eq_getElem_cons (by rw [cd];exact hlt);obtain ⟨x,hx⟩:∃ x,t[k]=x:=⟨_,rfl⟩
    rw [hx] at hd hget;rw [hd] at h1;have HX:=aW hget;have H1:=aW h1;have hkn:((k:Int) == (t.size:Int))=false:=by simp;omega
    clear h1 hd hget;by_cases h32:x=32
    ·subst h32;go_wp2
     ·have hq:=qx ‹(a.toList == s.toList)=true›;go_ret;refine ⟨ak ?_,rfl⟩;rw [eq_comm,H1.out,eu,if_pos rfl,hq];exact List.mem_cons_self
     ·have hq:=qy ‹(a.toList == s.toList)=false›;go_round
      case rel =>
       refine ⟨k+1,k+1,by omega,Nat.le_refl _,by go_num,by go_num,λ _=>aW ?_,λ h=>by omega⟩;rw [H1.out,eu,if_pos rfl,List.mem_cons,Nat.sub_self,List.take_zero];constructor
       ·rintro (h | h)
        ·exact absurd (jW h.symm) hq
        ·exact h
       ·exact .inr
      case measure=>simp [intOf];omega
    ·have hne:((x.toNat:Int) == 32)=false:=by
      have:x.toNat≠32:=λ e=>h32 (UInt8.toNat_inj.1 (by simpa using e))
      simp;omega
     go_wp2;go_round
     case rel =>
      refine ⟨f,k+1,by omega,by omega,rfl,by go_num,λ _=>aW ?_,λ h=>by omega⟩;rw [H1.out,eu,if_neg h32,HCUT.out,si hf HX.out]
     case measure=>simp [intOf];omega
   ·obtain rfl:k=t.size:=by omega
    rw [List.drop_eq_nil_of_le (by rw [cd];exact Nat.le_refl _),eu,List.mem_singleton] at h1;have H1:=aW h1;clear h1;go_wp2
    ·have hq:=qx ‹(a.toList == s.toList)=true›;go_ret;refine ⟨ak ?_,rfl⟩;rw [eq_comm,H1.out,hq]
    ·have hq:=qy ‹(a.toList == s.toList)=false›;go_round
     case rel =>
      refine ⟨t.size+1,t.size+1,by omega,Nat.le_refl _,by go_num,by go_num,λ h=>by omega,λ _=>aW ?_⟩;rw [Bool.eq_false_iff,Ne,H1.out];exact λ h=>hq (jW h.symm)
     case measure=>first | (simp [intOf];done) | (simp [intOf];omega)
  ·obtain rfl:k=t.size+1:=by omega
   have H2:=h2 rfl;clear h1 h2;go_wp2;go_ret;exact ⟨ak H2.out.symm,rfl⟩
def jY:List UInt8:=[101,109,105,116,32,105,102,32,101,108,115,101,32,102,111,114,32,105,110,32,111,114,32,97,110,100,32,110,111,116,32,115,105,122,101,32,107,105,110,100,32,116,114,117,101,32,102,97,108,115,101,32,110,117,108,108]
theorem lx:eu jY []=cT:=by decide
def jf:List UInt8:=[97,98,99,100,101,102,103,104,105,106,107,108,109,110,111,112,113,114,115,116,117,118,119,120,121,122]
def j7:List UInt8:=[48,49,50,51,52,53,54,55,56,57]
theorem tR {p:UInt8->Bool} (h:(List.range 256).all (λ n=>p (UInt8.ofNat n))=true) (c:UInt8):p c=true:=by
 have:=List.all_eq_true.1 h c.toNat (List.mem_range.2 c.toNat_lt);simpa using this
theorem mI (c:UInt8):jf.contains c=bi c:=by
 have:=tR (p:=λ c=>jf.contains c == bi c) (by decide +kernel) c;simpa using this
theorem nx (c:UInt8):j7.contains c=cD c:=by
 have:=tR (p:=λ c=>j7.contains c == cD c) (by decide +kernel) c;simpa using this
theorem oy (c:UInt8) (w:World):Calls Tryz.prog 88 #[Zi .u8 c.toNat,Zt ⟨#[97,98,99,100,101,102,103,104,105,106,107,108,109,110,111,112,113,114,115,116,117,118,119,120,121,122]⟩] w λ e w'=>e=.returned (.bool (bi c))/\w=w':=by
 have:=oz c ⟨jf.toArray⟩ w (by decide);rw [jG,mI] at this;exact this
theorem pD (c:UInt8) (w:World):Calls Tryz.prog 88 #[Zi .u8 c.toNat,Zt ⟨#[48,49,50,51,52,53,54,55,56,57]⟩] w λ e w'=>e=.returned (.bool (cD c))/\w=w':=by
 have:=oz c ⟨j7.toArray⟩ w (by decide);rw [jG,nx] at this;exact this
theorem ro (s:ByteArray) (w:World):Calls Tryz.prog 118 #[Zt s] w λ e w'=>e=.returned (.bool (dp (sl s)))/\w=w':=by
 have h:=pA s ⟨jY.toArray⟩ w (by decide);rw [jG,lx] at h;have H:=aW (show Calls Tryz.prog 144 #[Zt s,Zt ⟨jY.toArray⟩] w λ e w'=>e=.returned (.bool (dp (sl s)))/\w=w' from h);clear h;obtain ⟨b,hb⟩:∃ b,dp (sl s)=b:=⟨_,rfl⟩
 rw [hb] at H ⊢;clear hb;unfold jY at H;go_enter Tryz.func118,Tryz.ntmps118;go_wp2_with fail;refine H.out.mono ?_;rintro e w1 ⟨rfl,rfl⟩;go_wp2_with fail;go_ret;exact ⟨rfl,rfl⟩
theorem lU (s:ByteArray) (w:World):Calls Tryz.prog 78 #[Zt s] w λ e w'=>e=.returned (.bool (bm s))/\w=w':=by
 have HW:=aW (ro s);have HL:=aW oy;have HD:=aW pD;by_cases h1:s.size<1
 ·have HN:=aW (show bm s=false by rw [bm,decide_eq_false (show ¬ (1<=s.size/\s.size<=12) by omega)];simp);go_enter Tryz.func78,Tryz.ntmps78;go_wp2;go_ret;exact ⟨ak HN.out.symm,rfl⟩
 ·by_cases h2:12<s.size
  ·have HN:=aW (show bm s=false by rw [bm,decide_eq_false (show ¬ (1<=s.size/\s.size<=12) by omega)];simp);go_enter Tryz.func78,Tryz.ntmps78;go_wp2;go_ret;exact ⟨ak HN.out.symm,rfl⟩
  ·cases hw:dp (sl s) with
   |true =>
    have HN:=aW (show bm s=false by rw [bm,hw];simp);rw [hw] at HW;clear hw;go_enter Tryz.func78,Tryz.ntmps78;go_wp2_with (go_at_call 118;refine (HW.out _).mono ?_;rintro e w1 ⟨rfl,rfl⟩);go_ret;exact ⟨ak HN.out.symm,rfl⟩
   |false =>
    have hN0:bm s=aO 0 (sl s):=by rw [bm,hw,decide_eq_true (show 1<=s.size/\s.size<=12 by omega)];simp
    rw [hw] at HW;have h0:0<s.size:=by omega
    have hd0:sl s=s[0]::(sl s).drop 1:=by
     have:=List.drop_eq_getElem_cons (l:=sl s) (i:=0) (by rw [cd];exact h0);rw [List.drop_zero] at this;exact this
    obtain ⟨c,hc⟩:∃ c,s[0]=c:=⟨_,rfl⟩
    rw [hc] at hd0;cases hl:bi c with
    |false =>
     have HN:=aW (show bm s=false by rw [hN0,hd0,aO,hl];simp);have HC:=aW (HL.out c);rw [hl] at HC;clear hw hN0 hd0 hl HL;go_enter Tryz.func78,Tryz.ntmps78;go_wp2_with (first | (go_at_call 118;refine (HW.out _).mono ?_;rintro e w1 ⟨rfl,rfl⟩) | (go_at_call 88;refine (HC.out _).mono ?_;rintro e w1 ⟨rfl,rfl⟩));go_ret;exact ⟨ak HN.out.symm,rfl⟩
    |true =>
     have hN1:bm s=aO 1 ((sl s).drop 1):=by rw [hN0,hd0,aO,hl];simp
     obtain ⟨b,hb⟩:∃ b,bm s=b:=⟨_,rfl⟩
     rw [hb] at hN1 ⊢;have HN1:=aW hN1;have HC:=aW (HL.out c);rw [hl] at HC;have hs12:s.size<=12:=by omega
     clear hw hN0 hd0 hl hN1 hb h1 h2;go_enter Tryz.func78,Tryz.ntmps78;go_wp2_with (first | (go_at_call 118;refine (HW.out _).mono ?_;rintro e w1 ⟨rfl,rfl⟩) | (go_at_call 88;refine (HC.out _).mono ?_;rintro e w1 ⟨rfl,rfl⟩));clear hc;go_loopw [3] (λ i wr => ∃ k:Nat,k<=s.size/\1<=k/\i=Zi Zq k/\wr=w/\Hid (b=aO k ((sl s).drop k))) (λ i _=>s.size-(intOf i).toNat)
     case atStart=>exact ⟨1,by omega,by omega,rfl,rfl,HN1⟩
     case round =>
      obtain ⟨k,hk,hk1,rfl,rfl,hrb⟩:=hrel;by_cases hlt:k<s.size
      ·have hd:(sl s).drop k=s[k]::(sl s).drop (k+1):=List.drop_eq_getElem_cons (by rw [cd];exact hlt);obtain ⟨x,hx⟩:∃ x,s[k]=x:=⟨_,rfl⟩
       rw [hx] at hd;cases hxl:bi x with
       |true =>
        have HX:=aW (HL.out x);rw [hxl] at HX;have HR:=aW (show b=aO (k+1) ((sl s).drop (k+1)) by rw [hrb.out,hd,aO,hxl];simp);clear hd hxl hrb;go_wp2_with (go_at_call 88;refine (HX.out _).mono ?_;rintro e w1 ⟨rfl,rfl⟩);go_roundw
        case rel=>exact ⟨k+1,hlt,by omega,by go_num,by trivial,HR⟩
        case measure=>simp [intOf];omega
       |false =>
        have HX:=aW (HL.out x);rw [hxl] at HX;cases hxd:cD x with
        |true =>
         have HY:=aW (HD.out x);rw [hxd] at HY;have HR:=aW (show b=aO (k+1) ((sl s).drop (k+1)) by rw [hrb.out,hd,aO,hxl,hxd,decide_eq_true (show 0<k by omega)];simp);clear hd hxl hrb hxd;go_wp2_with fail;refine (HX.out _).mono ?_;rintro e w1 ⟨rfl,rfl⟩;go_wp2_with fail;refine (HY.out _).mono ?_;rintro e w1 ⟨rfl,rfl⟩;go_wp2_with fail;go_roundw
         case rel=>exact ⟨k+1,hlt,by omega,by go_num,by trivial,HR⟩
         case measure=>simp [intOf];omega
        |false =>
         have HY:=aW (HD.out x);rw [hxd] at HY;have HR:=aW (show b=false by rw [hrb.out,hd,aO,hxl,hxd];simp);clear hd hxl hrb hxd;go_wp2_with fail;refine (HX.out _).mono ?_;rintro e w1 ⟨rfl,rfl⟩;go_wp2_with fail;refine (HY.out _).mono ?_;rintro e w1 ⟨rfl,rfl⟩;go_wp2_with fail;go_ret;exact ⟨ak HR.out.symm,rfl⟩
      ·obtain rfl:k=s.size:=by omega
       have HR:=aW (show b=true by rw [hrb.out,List.drop_eq_nil_of_le (by rw [cd];exact Nat.le_refl _),aO]);clear hrb;go_wp2;go_ret;exact ⟨ak HR.out.symm,rfl⟩
end
end Go.Proofs.YtgmnmnnoahdjnaaGreatDoor
