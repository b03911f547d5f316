import Derived.Test.YtgmnmnnoahdjnaaGreatDoorProg
import Derived.Test.YtgmnmnnoahdjnaaGreatDoorH02
import Derived.Test.YtgmnmnnoahdjnaaGreatDoorH01
import Derived.StillTailTactics
import Derived.Deep.LoopGhost
import Derived.Laws.EntriesVeiled
open Go.Value renaming int → Zi, slice → Zs, string → Zt, pointer → Zp
open Go.IntKind renaming i64 → Zq
set_option maxRecDepth 100000
set_option maxHeartbeats 16000000
set_option linter.unusedVariables false
set_option linter.unusedSimpArgs false
namespace Go.Proofs.YtgmnmnnoahdjnaaGreatDoor
section
open Go.RowKit
attribute [local go_sem] ab ae af ac
structure NSt where
 pos:Nat
 minus:Bool
 size:Nat
 over:Bool
 part:Bool
def ay (A:Option Addr) (n cap:Nat) (s:NSt):Array Value:=#[Zi Zq s.pos,Zs A n cap,.bool s.minus,.int .u64 s.size,.bool s.over,.bool s.part]
def NB (w:World) (g:Nat) (A:Option Addr) (cap:Nat) (l:List UInt8) (s:NSt):Prop:=Blk w g 233 (ay A l.length cap s)/\Rd w A (aq l)
theorem NB.drewN {w:World} {g:Nat} {A:Option Addr} {cap:Nat} {l:List UInt8} {s:NSt} (h:NB w g A cap l s) (k:Nat):NB (w.drewN k) g A cap l s:=⟨h.1.drewN k,h.2.drewN k⟩
theorem pL (s:ByteArray) (k:Nat) (h:k<s.size):(sl s)[k]'(by rw [cd];exact h)=s[k]:=rfl
theorem vf (w:World) (g p:Nat) (b o cap:Nat) (l:List UInt8) (c:UInt8) (s:ByteArray) (hc:l[p]? = some c)
  (h0:w.cell? ⟨g,0,none⟩=some (Zi Zq p)) (h1:w.cell? ⟨g,1,none⟩=some (Zs (some ⟨b,o,none⟩) l.length cap))
  (hx:w.cell? ⟨b,o+p,none⟩=some (Zi .u8 c.toNat)) (hs:s.size<=4194304) (hn:l.length<=4194304) :
  Calls Tryz.prog 242 #[Zp (some ⟨g,0,none⟩),Zt s] w λ e w'=>e=.returned (.bool (bX l p (sl s)))/\∃ k,w'=w.drewN k:=by
 have hlt:p<l.length:=(List.getElem?_eq_some_iff.1 hc).1;have HC:=aW (show bX l p (sl s)=(sl s).contains c by simp [bX,hc]);clear hc;go_enter Tryz.func242,Tryz.ntmps242;go_wp2;go_loopw [5,8] (λ _ i wr => ∃ k m:Nat,k<=s.size/\i=Zi Zq k/\wr=w.drewN m/\((sl s).take k).contains c=false) (λ _ i _=>s.size-(intOf i).toNat)
 case atStart=>exact ⟨0,0,Nat.zero_le _,rfl,rfl,by simp⟩
 case round =>
  obtain ⟨k,m,hk,rfl,rfl,hno⟩:=hrel;have HN:=aW hno;clear hno;by_cases hlt':k<s.size
  ·have HS:=aW (show (sl s).take (k+1)=(sl s).take k++[s[k]] by rw [List.take_succ_eq_append_getElem (by rw [cd];exact hlt')];rfl);go_wp2;go_quiet (fail);go_wp2
   ·have hh:c=s[k]:=by
     have h:=‹((c.toNat:Int) == (s[k].toNat:Int))=true›;exact UInt8.toNat_inj.1 (by simp at h;omega)
    go_ret;refine ⟨ak ?_,_,by rw [World.drewN_drewN]⟩;rw [HC.out];have:s[k] ∈ sl s:=by rw [← pL s k hlt'];exact List.getElem_mem _
    rw [hh];simp [this]
   ·have hh:c≠s[k]:=by
     have h:=‹((c.toNat:Int) == (s[k].toNat:Int))=false›;intro e;rw [← e] at h;simp at h
    go_roundw
    case rel =>
     refine ⟨k+1,_,by omega,by go_num,rfl,?_⟩;rw [HS.out,List.contains_append,HN.out];simp [hh]
    case measure=>simp [intOf];omega
  ·obtain rfl:k=s.size:=by omega
   have hno:=HN.out;rw [List.take_of_length_le (by rw [cd];exact Nat.le_refl _)] at hno;have HN:=aW hno;clear hno;go_wp2;go_ret;exact ⟨ak (by rw [HC.out,HN.out]),_,rfl⟩
theorem tH (w:World) (g p:Nat) (A:Option Addr) (cap:Nat) (l:List UInt8) (s:ByteArray) (hp:l.length<=p) (hp2:p<=8388608)
  (h0:w.cell? ⟨g,0,none⟩=some (Zi Zq p)) (h1:w.cell? ⟨g,1,none⟩=some (Zs A l.length cap)) (hs:s.size<=4194304) :
  Calls Tryz.prog 242 #[Zp (some ⟨g,0,none⟩),Zt s] w λ e w'=>e=.returned (.bool (bX l p (sl s)))/\∃ k,w'=w.drewN k:=by
 have HC:=aW (show bX l p (sl s)=false by simp [bX,List.getElem?_eq_none hp]);have hlt:decide (p<l.length)=false:=by simp;omega
 have hlt2:decide ((p:Int)<(l.length:Int))=false:=by simp;omega
 go_enter Tryz.func242,Tryz.ntmps242;go_wp2;go_loopw [5,8] (λ _ i wr => ∃ k m:Nat,k<=s.size/\i=Zi Zq k/\wr=w.drewN m) (λ _ i _=>s.size-(intOf i).toNat)
 case atStart=>exact ⟨0,0,Nat.zero_le _,rfl,rfl⟩
 case round =>
  obtain ⟨k,m,hk,rfl,rfl⟩:=hrel;by_cases hlt':k<s.size
  ·go_wp2;go_quiet (fail);go_wp2;go_roundw
   case rel=>exact ⟨k+1,_,by omega,by go_num,rfl⟩
   case measure=>simp [intOf];omega
  ·go_wp2;go_ret;exact ⟨ak (by rw [HC.out]),_,rfl⟩
theorem oD (w:World) (g:Nat) (A:Option Addr) (cap:Nat) (l:List UInt8) (st:NSt) (s:ByteArray) (hN:NB w g A cap l st) (hs:s.size<=4194304) (hl:l.length<=4194304) (hp:st.pos<=8388608) :
  Calls Tryz.prog 242 #[Zp (some ⟨g,0,none⟩),Zt s] w λ e w'=>e=.returned (.bool (bX l st.pos (sl s)))/\∃ k,w'=w.drewN k:=by
 have h0:w.cell? ⟨g,0,none⟩=some (Zi Zq st.pos):=hN.1.cell 0;have h1:w.cell? ⟨g,1,none⟩=some (Zs A l.length cap):=hN.1.cell 1;by_cases h:st.pos<l.length
 ·obtain ⟨b,o,rfl,hb,hx⟩:=hN.2 (by intro e;have h3:=aA l;rw [e,List.length_nil] at h3;omega);refine vf w g st.pos b o cap l l[st.pos] s (List.getElem?_eq_getElem h) h0 h1 ?_ hs hl;rw [hx st.pos (by rw [aA];exact h)];simp [aq]
 ·exact tH w g st.pos A cap l s (by omega) hp h0 h1 hs
theorem ag {a b c:World} {row:Option Nat} (h:a.grownBy b row) (k:b.grownBy c row):a.grownBy c row :=
 ⟨k.os.trans h.os,k.tape.trans h.tape,k.output.trans h.output,Nat.le_trans h.size k.size,λ i hi hne=>(k.block i (Nat.lt_of_lt_of_le hi h.size) hne).trans (h.block i hi hne)⟩
theorem e7 {a w:World} {row:Option Nat} (h:a.grownBy w row) (n:Nat):a.grownBy (w.drewN n) row:=⟨h.os,h.tape,h.output,h.size,h.block⟩
theorem bt {a w:World} {g:Nat} (h:a.grownBy w (some g)) (i:Nat) (u:Value):a.grownBy (w.setCell ⟨g,i,none⟩ u) (some g) :=
 ⟨h.os,h.tape,h.output,by simpa [World.setCell] using h.size,λ j hj hne=>(Below.heap_setCell w ⟨g,i,none⟩ u j (λ e=>hne (by rw [e]))).trans (h.block j hj hne)⟩
theorem ec (w:World) (row:Option Nat):w.grownBy w row:=⟨rfl,rfl,rfl,Nat.le_refl _,λ _ _ _=>rfl⟩
theorem Rd.setCell {w:World} {A:Option Addr} {xs:List Value} {g:Nat} (h:Rd w A xs) (hne:∀ b o,A=some ⟨b,o,none⟩->xs≠[]->b≠g) (i:Nat) (u:Value):Rd (w.setCell ⟨g,i,none⟩ u) A xs:=λ hn=>by
 obtain ⟨b,o,rfl,hb,hx⟩:=h hn;refine ⟨b,o,rfl,by simpa [World.setCell] using hb,λ j hj=>?_⟩;rw [← hx j hj];exact World.cell?_of_block (w:=w) (Below.heap_setCell w ⟨g,i,none⟩ u b (hne b o rfl hn))
theorem Rd.ne_blk {w:World} {g:Nat} {t:TypeId} {cs:Array Value} {A:Option Addr} {l:List UInt8} (h:Rd w A (aq l)) (hb:Blk w g t cs) (hcs:∀ (i:Nat) (c:Int),cs[i]? = some (Value.int .u8 c)->False) :
  ∀ b o,A=some ⟨b,o,none⟩->aq l≠[]->b≠g:=by
 intro b o e hn;obtain ⟨b',o',e',_,hx⟩:=h hn;rw [e] at e';obtain ⟨rfl,rfl⟩:b=b'/\o=o':=by simpa using e'
 rintro rfl;have h0:=hx 0 (List.length_pos_iff.2 hn);rw [hb.cell] at h0;obtain ⟨c,r,hl⟩:=List.exists_cons_of_ne_nil (show l≠[] from λ e=>hn (by simp [e,aq]));subst hl;exact hcs _ _ h0
theorem om {A:Option Addr} {n cap:Nat} {s:NSt}:∀ (i:Nat) (c:Int),(ay A n cap s)[i]? = some (Value.int .u8 c)->False:=by
 intro i c h;unfold ay at h
 match i with
 | 0 | 1 | 2 | 3 | 4 | 5=>simp at h
 | i+6=>simp at h
theorem NB.ne {w:World} {g:Nat} {A:Option Addr} {cap:Nat} {l:List UInt8} {s:NSt} (h:NB w g A cap l s):∀ b o,A=some ⟨b,o,none⟩->aq l≠[]->b≠g:=h.2.ne_blk h.1 om
def bf (w:World) (g:Nat) (A:Option Addr) (cap:Nat) (l:List UInt8) (s:NSt) (w':World):Prop:=NB w' g A cap l s/\w.grownBy w' (some g)
theorem ma (w:World) (g:Nat) (A:Option Addr) (cap:Nat) (l:List UInt8) (st:NSt) (s:ByteArray) (hN:NB w g A cap l st) (hs:s.size<=4194304) (hl:l.length<=4194304) (hp:st.pos<=8388608) :
  Calls Tryz.prog 235 #[Zp (some ⟨g,0,none⟩),Zt s] w λ e w'=>e=.returned (.bool (bX l st.pos (sl s))) /\
   bf w g A cap l (if bX l st.pos (sl s) then { st with pos:=st.pos+1 } else st) w':=by
 have hcall:=oD w g A cap l st s hN hs hl hp;obtain ⟨hc,hf,hlt⟩:=hN.1.rules;obtain ⟨b,hb⟩:∃ b,bX l st.pos (sl s)=b:=⟨_,rfl⟩
 rw [hb] at hcall ⊢;have HC:=aW hcall;have HN:=aW hN;clear hcall hN hb;unfold ay at hc;cases b
 ·go_enter Tryz.func235,Tryz.ntmps235;go_wp2_with (go_at_call 242;refine HC.out.mono ?_;rintro e w' ⟨rfl,k,rfl⟩);go_ret;exact ⟨rfl,by simpa using HN.out.drewN k,e7 (ec _ _) _⟩
 ·go_enter Tryz.func235,Tryz.ntmps235;go_wp2_with (go_at_call 242;refine HC.out.mono ?_;rintro e w' ⟨rfl,k,rfl⟩);go_ret;refine ⟨rfl,⟨?_,?_⟩,bt (e7 (ec _ _) _) _ _⟩
  ·have:=(HN.out.1.drewN k).set_ 0 (Zi Zq ((st.pos:Int)+1));simpa [ay] using this
  ·exact (HN.out.2.drewN k).setCell HN.out.ne _ _
def fQ (d:Nat) (s:NSt):NSt:={ s with over:=s.over || decide ((18446744073709551615-d) / 10<s.size),size:=(10*s.size+d) % 18446744073709551616 }
def ed (ds:List UInt8) (s:NSt):NSt:=ds.foldl (λ s c=>fQ (jK c) s) s
theorem bf.refl {w:World} {g:Nat} {A:Option Addr} {cap:Nat} {l:List UInt8} {s:NSt} (h:NB w g A cap l s):bf w g A cap l s w:=⟨h,ec _ _⟩
theorem bf.trans {a b c:World} {g:Nat} {A:Option Addr} {cap:Nat} {l:List UInt8} {s t:NSt} (h:bf a g A cap l s b) (k:bf b g A cap l t c):bf a g A cap l t c:=⟨k.1,ag h.2 k.2⟩
theorem NB.set_ {w:World} {g:Nat} {A:Option Addr} {cap:Nat} {l:List UInt8} {s t:NSt} (h:NB w g A cap l s) (i:Nat) (u:Value) (e:(ay A l.length cap s).setIfInBounds i u=ay A l.length cap t) :
  NB (w.setCell ⟨g,i,none⟩ u) g A cap l t:=⟨by rw [← e];exact h.1.set_ i u,h.2.setCell h.ne _ _⟩
theorem bf.set_ {a w:World} {g:Nat} {A:Option Addr} {cap:Nat} {l:List UInt8} {s t:NSt} (h:bf a g A cap l s w) (i:Nat) (u:Value) (e:(ay A l.length cap s).setIfInBounds i u=ay A l.length cap t) :
  bf a g A cap l t (w.setCell ⟨g,i,none⟩ u):=⟨h.1.set_ i u e,bt h.2 _ _⟩
theorem bf.drewN {a w:World} {g:Nat} {A:Option Addr} {cap:Nat} {l:List UInt8} {s:NSt} (h:bf a g A cap l s w) (k:Nat):bf a g A cap l s (w.drewN k):=⟨h.1.drewN k,e7 h.2 k⟩
theorem qY (w:World) (g:Nat) (A:Option Addr) (cap:Nat) (l:List UInt8) (st:NSt) (d:Nat) (hN:NB w g A cap l st) (hd:d<=9) (hsz:st.size<18446744073709551616) :
  Calls Tryz.prog 237 #[Zp (some ⟨g,0,none⟩),.int .u64 d] w λ e w'=>e=.returned (.tuple #[])/\bf w g A cap l (fQ d st) w':=by
 obtain ⟨hc,hf,hlt⟩:=hN.1.rules;have HN:=aW hN;clear hN;unfold ay at hc;have e1:(18446744073709551615-(d:Int)) / 10=(((18446744073709551615-d) / 10:Nat):Int):=by omega
 have HE:=aW e1;clear e1;have hw:IntKind.u64.wrap (IntKind.u64.wrap (10*(st.size:Int))+(d:Int))=(((10*st.size+d) % 18446744073709551616:Nat):Int):=by
  simp only [IntKind.wrap_u64];omega
 have HW:=aW hw;clear hw;by_cases h:(18446744073709551615-d) / 10<st.size
 ·have h':(18446744073709551615-(d:Int)) / 10<(st.size:Int):=by rw [HE.out];omega
  go_enter Tryz.func237,Tryz.ntmps237;go_wp2;go_end0;refine ⟨rfl,?_⟩;have h1:=((bf.refl HN.out).set_ (t:={ st with over:=true }) 4 (.bool true) (by simp [ay])).set_ (t:=fQ d st) 3 (.int .u64 (((10*st.size+d) % 18446744073709551616:Nat):Int)) (by simp [ay,fQ,h]);rw [HW.out];exact h1
 ·have h':(st.size:Int)<=(18446744073709551615-(d:Int)) / 10:=by rw [HE.out];omega
  go_enter Tryz.func237,Tryz.ntmps237;go_wp2;go_end0;refine ⟨rfl,?_⟩;have h1:=(bf.refl HN.out).set_ (t:=fQ d st) 3 (.int .u64 (((10*st.size+d) % 18446744073709551616:Nat):Int)) (by simp [ay,fQ,h]);rw [show (((10*st.size+d) % 18446744073709551616:Nat):Int)=10*(st.size:Int)+(d:Int) from by omega] at h1;exact h1
theorem oh (v:Value) (w:World):Calls Tryz.prog 238 #[v] w λ e w'=>e=.returned (.tuple #[])/\w=w':=by
 go_enter Tryz.func238,Tryz.ntmps238;go_wp2;go_end0;exact ⟨rfl,rfl⟩
def mc (gr:Bool) (g:Nat):Value:=if gr then .func (.func 237) #[Zp (some ⟨g,0,none⟩)] #[] else .func (.func 238) #[] #[]
def iX (gr:Bool) (ds:List UInt8) (s:NSt):NSt:=if gr then { ed ds s with pos:=s.pos+ds.length } else { s with pos:=s.pos+ds.length }
theorem mD (ds:List UInt8):∀ s:NSt,(ed ds s).pos=s.pos/\(ed ds s).minus=s.minus/\(ed ds s).part=s.part:=by
 induction ds with
 | nil=>intro s;exact ⟨rfl,rfl,rfl⟩
 | cons c ds ih=>intro s;have:=ih (fQ (jK c) s);exact this
theorem mE (ds:List UInt8) (c:UInt8) (s:NSt):ed (ds++[c]) s=fQ (jK c) (ed ds s):=by simp [ed]
theorem ph (d:Nat) (s:NSt):(fQ d s).size<18446744073709551616:=Nat.mod_lt _ (by decide)
theorem iy (ds:List UInt8):∀ s:NSt,s.size<18446744073709551616->(ed ds s).size<18446744073709551616:=by
 induction ds with
 | nil=>intro s h;exact h
 | cons c ds ih=>intro s _;exact ih _ (ph _ _)
def im (gr:Bool) (g:Nat) (A:Option Addr) (cap:Nat) (l:List UInt8) (st:NSt) (w:World) (e:Ending) (w':World):Prop :=
 if dZ l st.pos=[] then e=.panicked [{ v:=.iface 254 (Zi Zq st.pos),recovered:=false }]/\bf w g A cap l st w'
 else e=.returned (.tuple #[])/\bf w g A cap l (iX gr (dZ l st.pos) st) w'
theorem sJ (gr:Bool) (ds:List UInt8) (c:UInt8) (s:NSt) :
  iX gr (ds++[c]) s=if gr then fQ (jK c) { iX gr ds s with pos:=s.pos+ds.length+1 } else { iX gr ds s with pos:=s.pos+ds.length+1 }:=by
 cases gr
 ·simp [iX,Nat.add_assoc]
 ·have h1:=(mD ds s).1;simp only [iX,mE,fQ,List.length_append,List.length_singleton,Nat.add_assoc];rfl
theorem tL (gr:Bool) (w:World) (g:Nat) (A:Option Addr) (cap:Nat) (l:List UInt8) (st:NSt) (hN:NB w g A cap l st) (hl:l.length<=4194304) (hp:st.pos<=4194306) (hsz:st.size<18446744073709551616) :
  Calls Tryz.prog 236 #[Zp (some ⟨g,0,none⟩),mc gr g] w (im gr g A cap l st w):=by
 have hsees:=oD w g A cap l st ⟨#[48,49,50,51,52,53,54,55,56,57]⟩ hN (by decide) hl (by omega);obtain ⟨hc,hf,hlt⟩:=hN.1.rules;have HN:=aW hN;clear hN;unfold ay at hc;obtain ⟨b,hb⟩:∃ b,bX l st.pos [48,49,50,51,52,53,54,55,56,57]=b:=⟨_,rfl⟩
 rw [show sl ⟨#[48,49,50,51,52,53,54,55,56,57]⟩=[48,49,50,51,52,53,54,55,56,57] from rfl,hb] at hsees;have HSE:=aW hsees;clear hsees;cases b
 ·have HB:=aW (nz hb);clear hb;go_enter Tryz.func236,Tryz.ntmps236;go_step3;go_wp2_with (go_at_call 242;refine HSE.out.mono ?_;rintro e w' ⟨rfl,k,rfl⟩);refine ⟨rfl,?_⟩;rw [im,if_pos HB.out];exact ⟨rfl,(bf.refl HN.out).drewN k⟩
 ·obtain ⟨c0,hc0,_,_,hds⟩:=lF hb;have HB:=aW (show dZ l st.pos≠[] by rw [hds];simp);clear hb hds hc0;go_enter Tryz.func236,Tryz.ntmps236;go_step3;go_wp2_with (go_at_call 242;refine HSE.out.mono ?_;rintro e w' ⟨rfl,k,rfl⟩);go_step3;go_wp2;go_loopg [] (dZ l st.pos).length (λ k wr => ∃ ds:List UInt8,ds++dZ l (st.pos+ds.length)=dZ l st.pos/\(dZ l (st.pos+ds.length)).length=k/\bf w g A cap l (iX gr ds st) wr)
  case atStart=>exact ⟨[],by simp,by simp,by have:=(bf.refl HN.out).drewN k;cases gr<;>simpa [iX,ed] using this⟩
  case round =>
   obtain ⟨ds,hds,hk,hst⟩:=hrel;clear hc hf hlt;have hpos:(iX gr ds st).pos=st.pos+ds.length:=by cases gr<;>rfl
   have hle:=mv l (st.pos+ds.length);have hdl:st.pos+ds.length<=4194306:=by
    have h1:=congrArg List.length hds;have h2:=mv l st.pos;simp at h1;omega
   have htk:=ma wr g A cap l (iX gr ds st) ⟨#[48,49,50,51,52,53,54,55,56,57]⟩ hst.1 (by decide) hl (by rw [hpos];omega);obtain ⟨b,hb⟩:∃ b,bX l (iX gr ds st).pos [48,49,50,51,52,53,54,55,56,57]=b:=⟨_,rfl⟩
   rw [show sl ⟨#[48,49,50,51,52,53,54,55,56,57]⟩=[48,49,50,51,52,53,54,55,56,57] from rfl,hb] at htk;have HT:=aW htk;have HS:=aW hst;have HD:=aW hds;have HP:=aW hpos;clear htk hst hds hle;rw [hpos] at hb;clear hpos;cases b
   ·have hnil:=nz hb;have HNL:=aW hnil;clear hb hnil hk;go_wp2_with (go_at_call 235;refine HT.out.mono ?_;rintro e w1 ⟨rfl,hw1⟩);go_end0;rw [im,if_neg HB.out];have hd:=HD.out;rw [HNL.out,List.append_nil] at hd;rw [← hd];exact ⟨rfl,HS.out.trans hw1⟩
   ·obtain ⟨c,hcl,hc1,hc2,hcd⟩:=lF hb;obtain ⟨bb,oo,rfl,hbb,hx⟩:=HS.out.1.2 (by intro e;have h3:=aA l;rw [e,List.length_nil] at h3;have:=(List.getElem?_eq_some_iff.1 hcl).1;omega);have hxc:=hx (st.pos+ds.length) (by rw [aA];exact (List.getElem?_eq_some_iff.1 hcl).1);have hlt:=(List.getElem?_eq_some_iff.1 hcl).1;have HC:=aW hcd;have HCL:=aW hcl;have HX:=aW hx;have HK:=aW hk;clear hb hcd hcl hx hxc hk;go_wp2_with (go_at_call 235;refine HT.out.mono ?_;rintro e w1 ⟨rfl,hw1⟩;obtain ⟨hr1,hr2,hr3⟩:=hw1.1.1.rules);have hxw:w1.cell? ⟨bb,oo+(st.pos+ds.length),none⟩=some (Zi .u8 c.toNat):=by
     obtain ⟨b',o',e',_,hx'⟩:=hw1.1.2 (by intro e;have h3:=aA l;rw [e,List.length_nil] at h3;omega);obtain ⟨rfl,rfl⟩:bb=b'/\oo=o':=by simpa using e'
     rw [hx' (st.pos+ds.length) (by rw [aA];exact hlt)];have hg:=(List.getElem?_eq_some_iff.1 HCL.out)
     simp [aq,hg.2]
    obtain ⟨q,hq⟩:∃ q,st.pos+ds.length=q:=⟨_,rfl⟩
    have h0:w1.cell? ⟨g,0,none⟩=some (Zi Zq ((q:Int)+1)):=by rw [hr1 0];simp [ay,HP.out,hq]
    have h1:w1.cell? ⟨g,1,none⟩=some (Zs (some ⟨bb,oo,none⟩) l.length cap):=by rw [hr1 1];simp [ay]
    rw [hq] at hxw hlt hdl;have hwq:IntKind.i64.wrap (q:Int)=(q:Int):=by rw [IntKind.wrap_i64];omega
    have hqn:((q:Int)).toNat=q:=Int.toNat_natCast q;have hq0:0<=(q:Int):=by omega
    have hql:(q:Int)<(l.length:Int):=by omega
    have hdv:IntKind.u8.wrap ((c.toNat:Int)-48)=((jK c:Nat):Int):=by rw [IntKind.wrap_u8];unfold jK;omega
    have hdw:IntKind.u64.wrap ((jK c:Nat):Int)=((jK c:Nat):Int):=by rw [IntKind.wrap_u64];unfold jK;omega
    have hd9:jK c<=9:=by unfold jK;omega
    have HQ:=aW hq;clear hr1 hr2 hr3 hq;have HW:=aW hw1;clear hw1;have hw:=HW.out;rw [if_pos trivial] at hw;have hsz2:(iX gr ds st).size<18446744073709551616:=by
     cases gr
     ·exact hsz
     ·exact iy ds st hsz
    have HW2:=aW hw;clear hw HW;have fin:ds++[c]++dZ l (st.pos+(ds++[c]).length)=dZ l st.pos/\(dZ l (st.pos+(ds++[c]).length)).length=(dZ l (q+1)).length:=by
     have h1:=HD.out;have h2:=HC.out;have h3:=HQ.out;have e:st.pos+(ds++[c]).length=q+1:=by simp;omega
     rw [h3] at h1 h2;rw [h2] at h1;rw [e];exact ⟨by rw [List.append_assoc];exact h1,rfl⟩
    have hm:(dZ l (q+1)).length<gk:=by
     have h1:=HK.out;have h2:=HC.out;rw [HQ.out] at h1 h2;rw [h2] at h1;simp at h1;omega
    have FIN:=aW fin;have HM:=aW hm;clear fin hm;cases gr
    ·rw [show mc false g=.func (.func 238) #[] #[] from rfl]
     go_still_tail 15,(by kernel_rfl)
     go_wp2_with (go_at_call 238;refine (oh _ _).mono ?_;rintro e w2 ⟨rfl,rfl⟩);go_roundg ((dZ l (q+1)).length)
     case measure=>exact HM.out
     case rel=>exact ⟨ds++[c],FIN.out.1,FIN.out.2,by rw [sJ];exact HS.out.trans (HW2.out.drewN 1)⟩
    ·rw [show mc true g=.func (.func 237) #[Zp (some ⟨g,0,none⟩)] #[] from rfl]
     go_still_tail 15,(by kernel_rfl)
     go_wp2_with (go_at_call 237;refine (qY _ g _ cap l _ (jK c) (HW2.out.1.drewN 1) hd9 hsz2).mono ?_;rintro e w2 ⟨rfl,hw2⟩);go_roundg ((dZ l (q+1)).length)
     case measure=>exact HM.out
     case rel=>exact ⟨ds++[c],FIN.out.1,FIN.out.2,by rw [sJ];exact (HS.out.trans (HW2.out.drewN 1)).trans hw2⟩
def cx (s:List UInt8) (l:List UInt8) (st:NSt):NSt:=if bX l st.pos s then { st with pos:=st.pos+1 } else st
def gc (gr:Bool) (l:List UInt8) (st:NSt):NSt × Option Nat:=if dZ l st.pos=[] then (st,some st.pos) else (iX gr (dZ l st.pos) st,none)
def qB (l:List UInt8) (st:NSt):NSt × Option Nat:=({ cx [45] l st with minus:=bX l st.pos [45] },none)
def ev (l:List UInt8) (st:NSt):NSt × Option Nat:=if bX l st.pos [48] then ({ st with pos:=st.pos+1 },none) else gc true l st
def iu (l:List UInt8) (st:NSt):NSt × Option Nat:=if bX l st.pos [46] then gc false l { st with pos:=st.pos+1,part:=true } else (st,none)
def my (l:List UInt8) (st:NSt):NSt × Option Nat:=if bX l st.pos [101,69] then gc false l (cx [43,45] l { st with pos:=st.pos+1,part:=true }) else (st,none)
def eQ (o:NSt × Option Nat) (g:Nat) (A:Option Addr) (cap:Nat) (l:List UInt8) (w:World) (e:Ending) (w':World):Prop :=
 (e=match o.2 with | none=>.returned (.tuple #[]) | some p=>.panicked [{ v:=.iface 254 (Zi Zq p),recovered:=false }])/\bf w g A cap l o.1 w'
theorem qw (gr:Bool) (w:World) (g:Nat) (A:Option Addr) (cap:Nat) (l:List UInt8) (st:NSt) (hN:NB w g A cap l st) (hl:l.length<=4194304) (hp:st.pos<=l.length) (hsz:st.size<18446744073709551616) :
  Calls Tryz.prog 236 #[Zp (some ⟨g,0,none⟩),mc gr g] w (eQ (gc gr l st) g A cap l w) :=
 (tL gr w g A cap l st hN hl (by omega) hsz).mono λ e w' h=>by
  unfold im at h;unfold eQ gc;by_cases hd:dZ l st.pos=[]
  ·rw [if_pos hd] at h ⊢;exact h
  ·rw [if_neg hd] at h ⊢;exact h
theorem gI {l s:List UInt8} {p:Nat} (h:bX l p s=true):p<l.length:=by
 unfold bX at h;cases hl:l[p]? with
 | none=>rw [hl] at h;cases h
 | some c=>exact (List.getElem?_eq_some_iff.1 hl).1
theorem mQ {gr:Bool} {l:List UInt8} {st:NSt} (hp:st.pos<=l.length):(gc gr l st).1.pos<=l.length:=by
 unfold gc;have h:=mv l st.pos;split
 ·exact hp
 ·cases gr<;>(show st.pos+_<=_;omega)
theorem kT {s l:List UInt8} {st:NSt} (hp:st.pos<=l.length):(cx s l st).pos<=l.length:=by
 unfold cx;split
 ·rename_i h;exact gI h
 ·exact hp
theorem jl {gr:Bool} {l:List UInt8} {st:NSt} (h:st.size<18446744073709551616):(gc gr l st).1.size<18446744073709551616:=by
 unfold gc;split
 ·exact h
 ·cases gr
  ·exact h
  ·exact iy _ _ h
theorem ie {s l:List UInt8} {st:NSt}:(cx s l st).size=st.size:=by unfold cx;split<;>rfl
theorem gh (w:World) (g:Nat) (A:Option Addr) (cap:Nat) (l:List UInt8) (st:NSt) (s:ByteArray) (hN:NB w g A cap l st) (hs:s.size<=4194304) (hl:l.length<=4194304) (hp:st.pos<=l.length) :
  Calls Tryz.prog 235 #[Zp (some ⟨g,0,none⟩),Zt s] w λ e w'=>e=.returned (.bool (bX l st.pos (sl s)))/\bf w g A cap l (cx (sl s) l st) w' :=
 ma w g A cap l st s hN hs hl (by omega)
theorem tI (w:World) (g:Nat) (A:Option Addr) (cap:Nat) (l:List UInt8) (st:NSt) (hN:NB w g A cap l st) (hl:l.length<=4194304) (hp:st.pos<=l.length) :
  Calls Tryz.prog 218 #[Zp (some ⟨g,0,none⟩)] w (eQ (qB l st) g A cap l w):=by
 have ht:=gh w g A cap l st ⟨#[45]⟩ hN (by decide) hl hp;rw [show sl ⟨#[45]⟩=[45] from rfl] at ht;obtain ⟨b,hb⟩:∃ b,bX l st.pos [45]=b:=⟨_,rfl⟩
 rw [hb] at ht;have HT:=aW ht;have HB:=aW hb;clear ht hN hb;go_enter Tryz.func218,Tryz.ntmps218;go_wp2_with (go_at_call 235;refine HT.out.mono ?_;rintro e w1 ⟨rfl,hw1⟩;have hf:=hw1.1.1.frozen 2;obtain ⟨hc2,_,_⟩:=hw1.1.1.rules);go_end0;refine ⟨rfl,?_⟩;unfold qB;rw [HB.out];exact hw1.set_ 2 (.bool b) (by simp [ay])
theorem kO {gr:Bool} {w:World} {g:Nat} {A:Option Addr} {cap:Nat} {l:List UInt8} {st st':NSt} (h:gc gr l st=(st',none)) (hN:NB w g A cap l st) (hl:l.length<=4194304) (hp:st.pos<=l.length) (hsz:st.size<18446744073709551616) :
  Calls Tryz.prog 236 #[Zp (some ⟨g,0,none⟩),mc gr g] w λ e w'=>e=.returned (.tuple #[])/\bf w g A cap l st' w':=by
 have:=qw gr w g A cap l st hN hl hp hsz;rw [h] at this;exact this
theorem kP {gr:Bool} {w:World} {g:Nat} {A:Option Addr} {cap:Nat} {l:List UInt8} {st st':NSt} {p:Nat} (h:gc gr l st=(st',some p)) (hN:NB w g A cap l st) (hl:l.length<=4194304) (hp:st.pos<=l.length) (hsz:st.size<18446744073709551616) :
  Calls Tryz.prog 236 #[Zp (some ⟨g,0,none⟩),mc gr g] w λ e w'=>e=.panicked [{ v:=.iface 254 (Zi Zq p),recovered:=false }]/\bf w g A cap l st' w':=by
 have:=qw gr w g A cap l st hN hl hp hsz;rw [h] at this;exact this
theorem rI (w:World) (g:Nat) (A:Option Addr) (cap:Nat) (l:List UInt8) (st:NSt) (hN:NB w g A cap l st) (hl:l.length<=4194304) (hp:st.pos<=l.length) (hsz:st.size<18446744073709551616) :
  Calls Tryz.prog 219 #[Zp (some ⟨g,0,none⟩)] w (eQ (ev l st) g A cap l w):=by
 have ht:=gh w g A cap l st ⟨#[48]⟩ hN (by decide) hl hp;rw [show sl ⟨#[48]⟩=[48] from rfl] at ht;obtain ⟨b,hb⟩:∃ b,bX l st.pos [48]=b:=⟨_,rfl⟩
 rw [hb] at ht;have HT:=aW ht;have HB:=aW hb;clear ht hN hb;unfold ev;rw [HB.out];cases b
 ·have hts:cx [48] l st=st:=by unfold cx;rw [HB.out];rfl
  obtain ⟨⟨st',q⟩,hr⟩:∃ r,gc true l st=r:=⟨_,rfl⟩
  rw [if_neg (by decide),hr];cases q with
  |none =>
   have HR:=aW (λ w=>@kO true w g A cap l st st' hr);clear hr;go_enter Tryz.func219,Tryz.ntmps219;go_wp2_with (first | (go_at_call 235;refine HT.out.mono ?_;rintro e w1 ⟨rfl,hw1⟩) | (go_at_call 236;refine (HR.out _ (hts ▸ hw1.1) hl hp hsz).mono ?_;rintro e w2 ⟨rfl,hw2⟩));go_end0;exact ⟨rfl,(hts ▸ hw1).trans hw2⟩
  |some p =>
   have HR:=aW (λ w=>@kP true w g A cap l st st' p hr);clear hr;go_enter Tryz.func219,Tryz.ntmps219;go_wp2_with (first | (go_at_call 235;refine HT.out.mono ?_;rintro e w1 ⟨rfl,hw1⟩) | (go_at_call 236;refine (HR.out _ (hts ▸ hw1.1) hl hp hsz).mono ?_;rintro e w2 ⟨rfl,hw2⟩));exact ⟨rfl,rfl,(hts ▸ hw1).trans hw2⟩
 ·go_enter Tryz.func219,Tryz.ntmps219;go_wp2_with (go_at_call 235;refine HT.out.mono ?_;rintro e w1 ⟨rfl,hw1⟩);go_end0;refine ⟨rfl,?_⟩;have:cx [48] l st={ st with pos:=st.pos+1 }:=by unfold cx;rw [HB.out];rfl
  rw [this] at hw1;exact hw1
theorem mB (w:World) (g:Nat) (A:Option Addr) (cap:Nat) (l:List UInt8) (st:NSt) (hN:NB w g A cap l st) (hl:l.length<=4194304) (hp:st.pos<=l.length) (hsz:st.size<18446744073709551616) :
  Calls Tryz.prog 220 #[Zp (some ⟨g,0,none⟩)] w (eQ (iu l st) g A cap l w):=by
 have ht:=gh w g A cap l st ⟨#[46]⟩ hN (by decide) hl hp;rw [show sl ⟨#[46]⟩=[46] from rfl] at ht;obtain ⟨b,hb⟩:∃ b,bX l st.pos [46]=b:=⟨_,rfl⟩
 rw [hb] at ht;have HT:=aW ht;have HB:=aW hb;clear ht hN hb;unfold iu;rw [HB.out];cases b
 ·have hts:cx [46] l st=st:=by unfold cx;rw [HB.out];rfl
  go_enter Tryz.func220,Tryz.ntmps220;go_wp2_with (go_at_call 235;refine HT.out.mono ?_;rintro e w1 ⟨rfl,hw1⟩);go_end0;exact ⟨rfl,hts ▸ hw1⟩
 ·have hts:cx [46] l st={ st with pos:=st.pos+1 }:=by unfold cx;rw [HB.out];rfl
  have hp1:st.pos+1<=l.length:=gI HB.out;obtain ⟨st0,hs0⟩:∃ x,({ st with pos:=st.pos+1,part:=true }:NSt)=x:=⟨_,rfl⟩
  have hp0:st0.pos<=l.length:=by rw [← hs0];exact hp1
  have hsz0:st0.size<18446744073709551616:=by rw [← hs0];exact hsz
  have HS:=aW (show ∀ w',bf w g A cap l { ({ st with pos:=st.pos+1 }:NSt) with part:=true } w'->bf w g A cap l st0 w' from λ w' h=>hs0 ▸ h);obtain ⟨⟨st',q⟩,hr⟩:∃ r,gc false l st0=r:=⟨_,rfl⟩
  rw [if_pos rfl,hs0,hr];clear hs0;cases q with
  |none =>
   have HR:=aW (λ w=>@kO false w g A cap l st0 st' hr);clear hr;go_enter Tryz.func220,Tryz.ntmps220;go_wp2_with (first | (go_at_call 235;refine HT.out.mono ?_;rintro e w1 ⟨rfl,hw1⟩;rw [hts] at hw1;have hf:=hw1.1.1.frozen 5;obtain ⟨hc2,_,_⟩:=hw1.1.1.rules;have hw2:=HS.out _ (hw1.set_ 5 (.bool true) (by simp [ay]))) | (go_at_call 236;refine (HR.out _ hw2.1 hl hp0 hsz0).mono ?_;rintro e w2 ⟨rfl,hw3⟩));go_end0;exact ⟨rfl,hw2.trans hw3⟩
  |some p =>
   have HR:=aW (λ w=>@kP false w g A cap l st0 st' p hr);clear hr;go_enter Tryz.func220,Tryz.ntmps220;go_wp2_with (first | (go_at_call 235;refine HT.out.mono ?_;rintro e w1 ⟨rfl,hw1⟩;rw [hts] at hw1;have hf:=hw1.1.1.frozen 5;obtain ⟨hc2,_,_⟩:=hw1.1.1.rules;have hw2:=HS.out _ (hw1.set_ 5 (.bool true) (by simp [ay]))) | (go_at_call 236;refine (HR.out _ hw2.1 hl hp0 hsz0).mono ?_;rintro e w2 ⟨rfl,hw3⟩));exact ⟨rfl,rfl,hw2.trans hw3⟩
theorem mz (w:World) (g:Nat) (A:Option Addr) (cap:Nat) (l:List UInt8) (st:NSt) (hN:NB w g A cap l st) (hl:l.length<=4194304) (hp:st.pos<=l.length) (hsz:st.size<18446744073709551616) :
  Calls Tryz.prog 221 #[Zp (some ⟨g,0,none⟩)] w (eQ (my l st) g A cap l w):=by
 have ht:=gh w g A cap l st ⟨#[101,69]⟩ hN (by decide) hl hp;rw [show sl ⟨#[101,69]⟩=[101,69] from rfl] at ht;obtain ⟨b,hb⟩:∃ b,bX l st.pos [101,69]=b:=⟨_,rfl⟩
 rw [hb] at ht;have HT:=aW ht;have HB:=aW hb;clear ht hN hb;unfold my;rw [HB.out];cases b
 ·have hts:cx [101,69] l st=st:=by unfold cx;rw [HB.out];rfl
  go_enter Tryz.func221,Tryz.ntmps221;go_wp2_with (go_at_call 235;refine HT.out.mono ?_;rintro e w1 ⟨rfl,hw1⟩);go_end0;exact ⟨rfl,hts ▸ hw1⟩
 ·have hts:cx [101,69] l st={ st with pos:=st.pos+1 }:=by unfold cx;rw [HB.out];rfl
  have hp1:st.pos+1<=l.length:=gI HB.out;obtain ⟨st0,hs0⟩:∃ x,({ st with pos:=st.pos+1,part:=true }:NSt)=x:=⟨_,rfl⟩
  have hp0:st0.pos<=l.length:=by rw [← hs0];exact hp1
  have hsz0:st0.size<18446744073709551616:=by rw [← hs0];exact hsz
  have HS:=aW (show ∀ w',bf w g A cap l { ({ st with pos:=st.pos+1 }:NSt) with part:=true } w'->bf w g A cap l st0 w' from λ w' h=>hs0 ▸ h);have ht2:=λ w h=>gh w g A cap l st0 ⟨#[43,45]⟩ h (by decide) hl hp0
  rw [show sl ⟨#[43,45]⟩=[43,45] from rfl] at ht2;have HT2:=aW ht2;clear ht2;have hp1':(cx [43,45] l st0).pos<=l.length:=kT hp0;have hsz1:(cx [43,45] l st0).size<18446744073709551616:=by rw [ie];exact hsz0
  obtain ⟨⟨st',q⟩,hr⟩:∃ r,gc false l (cx [43,45] l st0)=r:=⟨_,rfl⟩
  rw [if_pos rfl,hs0,hr];clear hs0;cases q with
  |none =>
   have HR:=aW (λ w=>@kO false w g A cap l _ st' hr);clear hr;go_enter Tryz.func221,Tryz.ntmps221;go_wp2_with (first | (go_at_call 235;refine (HT2.out _ hw2.1).mono ?_;rintro e w5 ⟨rfl,hw4⟩) | (go_at_call 235;refine HT.out.mono ?_;rintro e w1 ⟨rfl,hw1⟩;rw [hts] at hw1;have hf:=hw1.1.1.frozen 5;obtain ⟨hc2,_,_⟩:=hw1.1.1.rules;have hw2:=HS.out _ (hw1.set_ 5 (.bool true) (by simp [ay]))) | (go_at_call 236;refine (HR.out _ hw4.1 hl hp1' hsz1).mono ?_;rintro e w2 ⟨rfl,hw3⟩));go_end0;exact ⟨rfl,(hw2.trans hw4).trans hw3⟩
  |some p =>
   have HR:=aW (λ w=>@kP false w g A cap l _ st' p hr);clear hr;go_enter Tryz.func221,Tryz.ntmps221;go_wp2_with (first | (go_at_call 235;refine (HT2.out _ hw2.1).mono ?_;rintro e w5 ⟨rfl,hw4⟩) | (go_at_call 235;refine HT.out.mono ?_;rintro e w1 ⟨rfl,hw1⟩;rw [hts] at hw1;have hf:=hw1.1.1.frozen 5;obtain ⟨hc2,_,_⟩:=hw1.1.1.rules;have hw2:=HS.out _ (hw1.set_ 5 (.bool true) (by simp [ay]))) | (go_at_call 236;refine (HR.out _ hw4.1 hl hp1' hsz1).mono ?_;rintro e w2 ⟨rfl,hw3⟩));exact ⟨rfl,rfl,(hw2.trans hw4).trans hw3⟩
def kR:Value:=.agg #[.func (.func 218) #[] #[],.func (.func 219) #[] #[],.func (.func 220) #[] #[],.func (.func 221) #[] #[]]
theorem rv (w:World):Calls Tryz.prog 206 #[] w λ e w'=>e=.returned kR/\Below w.heap.size w w':=by
 go_enter Tryz.func206,Tryz.ntmps206;go_wp2;go_returns;exact ⟨rfl,by go_grown⟩
theorem oV (p q:Addr) (w:World) :
  CallsD Tryz.prog 205 #[Zp (some p),Zp (some q)] .returning w λ e u' w'=>e=.returned (.tuple #[])/\u'=.returning/\w'=w:=by
 refine callsD_of_wpS Tryz.func205 rfl λ c₀ cs hu=>?_
 simp only [Tryz.ntmps205,List.size_toArray,List.length_cons,List.length_nil,Nat.reduceAdd,Nat.reduceSub,Array.replicate_succ,
   Array.replicate_zero,List.push_toArray,List.append_toArray,List.nil_append,List.cons_append]
 apply wpS_seq;apply wpS_region;simp [wpOpsS,go_sem,recoverD,hu,Exit.thenS];refine wpS_of_wp ?_;go_wp2;cases c₀
 simp_all [bodyPostS,results,Tryz.results205]
theorem ey (b d:Nat) (x:Int) (c c':Value) (w:World) (hbd:b≠d) (hp:w.cell? ⟨b,0,none⟩=some c) (hz:w.frozen? ⟨b,0,none⟩=false) (hq:w.cell? ⟨d,0,none⟩=some c') (hy:w.frozen? ⟨d,0,none⟩=false) :
  CallsD Tryz.prog 205 #[Zp (some ⟨b,0,none⟩),Zp (some ⟨d,0,none⟩)] (.panicking [{ v:=.iface 254 (Zi Zq x),recovered:=false }]) w λ e u' w' =>
   e=.returned (.tuple #[])/\u'=.panicking [{ v:=.iface 254 (Zi Zq x),recovered:=true }]/\w'=(w.setCell ⟨b,0,none⟩ (Zi Zq x)).setCell ⟨d,0,none⟩ (Zi Zq 7):=by
 have hta:∀ w:World,(Instr.typeAssert (.iface 254 (Zi Zq x)) 20 254 true).run Tryz.prog w=.ok (.tuple #[Zi Zq x,.bool true]) w:=λ _=>by kernel_rfl
 refine callsD_of_wpS Tryz.func205 rfl λ c₀ cs hu=>?_
 simp only [Tryz.ntmps205,List.size_toArray,List.length_cons,List.length_nil,Nat.reduceAdd,Nat.reduceSub,Array.replicate_succ,
   Array.replicate_zero,List.push_toArray,List.append_toArray,List.nil_append,List.cons_append]
 apply wpS_seq;apply wpS_region;simp [wpOpsS,go_sem,recoverD,hu,Exit.thenS];refine wpS_of_wp ?_;go_wp2;simp [bodyPostS,results,Tryz.results205]
def d8:Nat->List UInt8->NSt->NSt × Option Nat
 | 0=>qB | 1=>ev | 2=>iu | _=>my
def jN (l:List UInt8):List Nat->NSt->NSt × Option Nat
 | [],st=>(st,none)
 | k::ks,st=>match d8 k l st with | (st',none)=>jN l ks st' | r=>r
def dM (l:List UInt8) (st:NSt):NSt × Option Nat:=jN l [0,1,2,3] st
theorem dc {l:List UInt8} {k:Nat} {ks:List Nat} {st st':NSt} (h:d8 k l st=(st',none)):jN l (k::ks) st=jN l ks st':=by simp [jN,h]
theorem dO {l:List UInt8} {k p:Nat} {ks:List Nat} {st st':NSt} (h:d8 k l st=(st',some p)):jN l (k::ks) st=(st',some p):=by simp [jN,h]
theorem dX {k:Nat} {l:List UInt8} {st st':NSt} {q:Option Nat} (h:d8 k l st=(st',q)) (hp:st.pos<=l.length) (hs:st.size<18446744073709551616) :
  st'.pos<=l.length/\st'.size<18446744073709551616:=by
 have e:(d8 k l st).1=st':=by rw [h]
 rw [← e];rcases k with _ | _ | _ | k
 ·exact ⟨kT (s:=[45]) hp,by show (cx [45] l st).size < _;rw [ie];exact hs⟩
 ·show (ev l st).1.pos<=_/\(ev l st).1.size < _
  unfold ev;split
  ·rename_i h2;exact ⟨gI h2,hs⟩
  ·exact ⟨mQ hp,jl hs⟩
 ·show (iu l st).1.pos<=_/\(iu l st).1.size < _
  unfold iu;split
  ·rename_i h2;exact ⟨mQ (gI h2),jl hs⟩
  ·exact ⟨hp,hs⟩
 ·show (my l st).1.pos<=_/\(my l st).1.size < _
  unfold my;split
  ·rename_i h2;exact ⟨mQ (kT (gI h2)),jl (by rw [ie];exact hs)⟩
  ·exact ⟨hp,hs⟩
def ek (o:NSt × Option Nat) (g:Nat) (A:Option Addr) (cap:Nat) (l:List UInt8) (w:World) (e:Ending) (w':World):Prop :=
 (e=match o.2 with | none=>.returned (.tuple #[Zi Zq o.1.pos,Zi Zq 0]) | some p=>.returned (.tuple #[Zi Zq p,Zi Zq 7]))/\bf w g A cap l o.1 w'
theorem cR {a w:World} {row:Option Nat} (h:a.grownBy w row) (p:Addr) (u:Value) (hp:a.heap.size<=p.block):a.grownBy (w.setCell p u) row :=
 ⟨h.os,h.tape,h.output,by simpa [World.setCell] using h.size,λ j hj hne=>(Below.heap_setCell w p u j (by omega)).trans (h.block j hj hne)⟩
theorem tg {x:Int}:∀ (i:Nat) (c:Int),(#[Value.int .i64 x]:Array Value)[i]? = some (Value.int .u8 c)->False:=by
 intro i c h
 match i with
 | 0=>simp at h
 | i+1=>simp at h
theorem fU (w:World) (g:Nat) (A:Option Addr) (cap:Nat) (l:List UInt8) (st':NSt) (p q:Int) (hlt:g<w.heap.size) (w2:World)
  (hN:NB w2 g A cap l st') (c0:Blk w2 w.heap.size 3 #[Zi Zq 0]) (c1:Blk w2 (w.heap.size+1) 27 #[Zi Zq 0]) (hgr:w.grownBy w2 (some g)) :
  ((w2.setCell ⟨w.heap.size,0,none⟩ (Zi Zq p)).setCell ⟨w.heap.size+1,0,none⟩ (Zi Zq q)).cell? ⟨w.heap.size,0,none⟩=some (Zi Zq p) /\
  ((w2.setCell ⟨w.heap.size,0,none⟩ (Zi Zq p)).setCell ⟨w.heap.size+1,0,none⟩ (Zi Zq q)).cell? ⟨w.heap.size+1,0,none⟩=some (Zi Zq q) /\
  bf w g A cap l st' ((w2.setCell ⟨w.heap.size,0,none⟩ (Zi Zq p)).setCell ⟨w.heap.size+1,0,none⟩ (Zi Zq q)):=by
 have d0:=(c0.set_ 0 (Zi Zq p)).far (p:=⟨w.heap.size+1,0,none⟩) (show w.heap.size≠w.heap.size+1 by omega) (Zi Zq q);have d1:=(c1.far (p:=⟨w.heap.size,0,none⟩) (show w.heap.size+1≠w.heap.size by omega) (Zi Zq p)).set_ 0 (Zi Zq q);have e0:=hN.2.ne_blk c0 tg;have e1:=hN.2.ne_blk c1 tg;refine ⟨by rw [d0.cell];rfl,by rw [d1.cell];rfl,⟨⟨(hN.1.far (p:=⟨w.heap.size,0,none⟩) (by simp;omega) _).far (p:=⟨w.heap.size+1,0,none⟩) (by simp;omega) _,(hN.2.setCell e0 _ _).setCell e1 _ _⟩,cR (cR hgr _ _ (Nat.le_refl _)) _ _ (by simp)⟩⟩
theorem rp (w:World) (g:Nat) (A:Option Addr) (cap:Nat) (l:List UInt8) (st:NSt) (hN:NB w g A cap l st) (hl:l.length<=4194304) (hp:st.pos<=l.length) (hsz:st.size<18446744073709551616) :
  Calls Tryz.prog 192 #[Zp (some ⟨g,0,none⟩)] w (ek (dM l st) g A cap l w):=by
 have hmf:∀ (fn:Fn) (first cap:Array Value) (w:World),(Instr.makeFunc fn first cap).run Tryz.prog w=.ok (.func fn first cap) w:=λ _ _ _ _=>rfl
 have HN:=aW hN;clear hN
 go_enter_defers Tryz.func192,Tryz.ntmps192
 go_wp2_with (go_at_call 206;refine (rv _).mono ?_;rintro e w1 ⟨rfl,hb⟩);have hlt:=HN.out.1.lt;go_loopw [5,8] (λ _ i wr => ∃ k:Nat,k<=4/\i=Zi Zq k/\True/\∃ sk:NSt,sk.pos<=l.length/\sk.size<18446744073709551616/\jN l ([0,1,2,3].drop k) sk=dM l st/\NB wr g A cap l sk /\
   Blk wr w.heap.size 3 #[Zi Zq 0]/\Blk wr (w.heap.size+1) 27 #[Zi Zq 0]/\w.grownBy wr (some g)) (λ _ i _=>4-(intOf i).toNat)
 case atStart =>
  have b0:=((Blk.new w 3 #[Zi Zq 0]).alloc (.cells #[Zi Zq 0] 27)).keep hb;have b1:=(Blk.new (w.alloc (.cells #[Zi Zq 0] 3)) 27 #[Zi Zq 0]).keep hb;rw [World.size_alloc] at b1;have hbw:Below w.heap.size w w1:=(((Below.refl _ w).alloc (Nat.le_refl _) _).alloc (by simp) _).trans (hb.mono (by simp;omega));exact ⟨0,by omega,rfl,trivial,st,hp,hsz,rfl,⟨HN.out.1.keep hbw,HN.out.2.below hbw⟩,b0,b1,⟨hbw.os,hbw.tape,hbw.output,hbw.size,λ i hi _=>hbw.block i hi⟩⟩
 case round =>
  obtain ⟨k,hk,rfl,-,sk,hpk,hsk,hK,hst,b0,b1,hgr⟩:=hrel;have HK:=aW hK;clear hK;have hg0:some w.heap.size≠some g:=by simp;omega
  have hg1:some (w.heap.size+1)≠some g:=by simp;omega
  rcases (by omega:k=0∨k=1∨k=2∨k=3∨k=4) with rfl | rfl | rfl | rfl | rfl
  ·obtain ⟨⟨st',q⟩,hr⟩:∃ r,d8 0 l sk=r:=⟨_,rfl⟩
   have hcon:=λ w h=>tI w g A cap l sk h hl hpk
   rw [show qB l sk=(st',q) from hr] at hcon;have hle:=dX hr hpk hsk;unfold kR;cases q with
   |none =>
    have HC:=aW (show ∀ w,NB w g A cap l sk->Calls Tryz.prog 218 #[Zp (some ⟨g,0,none⟩)] w (λ e w'=>e=.returned (.tuple #[])/\bf w g A cap l st' w') from λ w h=>hcon w h);have HR:=aW (dc (ks:=[1,2,3]) hr);clear hcon hr;go_wp2_with (go_at_call 218;refine (HC.out _ hst).mono ?_;rintro e w2 ⟨rfl,hw2⟩);go_roundw
    case rel =>
     exact ⟨1,by omega,rfl,trivial,st',hle.1,hle.2,HK.out.symm ▸ HR.out.symm,hw2.1,b0.grown hw2.2 hg0,b1.grown hw2.2 hg1,ag hgr hw2.2⟩
    case measure=>simp [intOf]
   |some p =>
    have HC:=aW (show ∀ w,NB w g A cap l sk->Calls Tryz.prog 218 #[Zp (some ⟨g,0,none⟩)] w (λ e w'=>e=.panicked [{ v:=.iface 254 (Zi Zq p),recovered:=false }]/\bf w g A cap l st' w') from λ w h=>hcon w h);have HR:=aW (dO (ks:=[1,2,3]) hr);clear hcon hr;go_wp2_with (go_at_call 218;refine (HC.out _ hst).mono ?_;rintro e w2 ⟨rfl,hw2⟩);have c0:=b0.grown hw2.2 hg0;have c1:=b1.grown hw2.2 hg1;refine leaves_cons (f:=205) (args:=#[Zp (some ⟨w.heap.size,0,none⟩),Zp (some ⟨w.heap.size+1,0,none⟩)]) (by simp) (by simp [go_sem]) ?_;refine (ey w.heap.size (w.heap.size+1) p _ _ w2 (by omega) (c0.cell 0) (c0.frozen 0) (c1.cell 0) (c1.frozen 0)).mono ?_;rintro e u' w3 ⟨rfl,rfl,rfl⟩;obtain ⟨r0,r1,hfin⟩:=fU w g A cap l st' p 7 hlt w2 hw2.1 c0 c1 (ag hgr hw2.2);refine ⟨.tuple #[Zi Zq p,Zi Zq 7],?_,?_⟩
    ·simp only [results,Tryz.results192];go_simp
    ·rw [ek,show dM l st=(st',some p) from (by rw [← HK.out];exact HR.out)];exact ⟨rfl,hfin⟩
  ·obtain ⟨⟨st',q⟩,hr⟩:∃ r,d8 1 l sk=r:=⟨_,rfl⟩
   have hcon:=λ w h=>rI w g A cap l sk h hl hpk hsk
   rw [show ev l sk=(st',q) from hr] at hcon;have hle:=dX hr hpk hsk;unfold kR;cases q with
   |none =>
    have HC:=aW (show ∀ w,NB w g A cap l sk->Calls Tryz.prog 219 #[Zp (some ⟨g,0,none⟩)] w (λ e w'=>e=.returned (.tuple #[])/\bf w g A cap l st' w') from λ w h=>hcon w h);have HR:=aW (dc (ks:=[2,3]) hr);clear hcon hr;go_wp2_with (go_at_call 219;refine (HC.out _ hst).mono ?_;rintro e w2 ⟨rfl,hw2⟩);go_roundw
    case rel =>
     exact ⟨2,by omega,rfl,trivial,st',hle.1,hle.2,HK.out.symm ▸ HR.out.symm,hw2.1,b0.grown hw2.2 hg0,b1.grown hw2.2 hg1,ag hgr hw2.2⟩
    case measure=>simp [intOf]
   |some p =>
    have HC:=aW (show ∀ w,NB w g A cap l sk->Calls Tryz.prog 219 #[Zp (some ⟨g,0,none⟩)] w (λ e w'=>e=.panicked [{ v:=.iface 254 (Zi Zq p),recovered:=false }]/\bf w g A cap l st' w') from λ w h=>hcon w h);have HR:=aW (dO (ks:=[2,3]) hr);clear hcon hr;go_wp2_with (go_at_call 219;refine (HC.out _ hst).mono ?_;rintro e w2 ⟨rfl,hw2⟩);have c0:=b0.grown hw2.2 hg0;have c1:=b1.grown hw2.2 hg1;refine leaves_cons (f:=205) (args:=#[Zp (some ⟨w.heap.size,0,none⟩),Zp (some ⟨w.heap.size+1,0,none⟩)]) (by simp) (by simp [go_sem]) ?_;refine (ey w.heap.size (w.heap.size+1) p _ _ w2 (by omega) (c0.cell 0) (c0.frozen 0) (c1.cell 0) (c1.frozen 0)).mono ?_;rintro e u' w3 ⟨rfl,rfl,rfl⟩;obtain ⟨r0,r1,hfin⟩:=fU w g A cap l st' p 7 hlt w2 hw2.1 c0 c1 (ag hgr hw2.2);refine ⟨.tuple #[Zi Zq p,Zi Zq 7],?_,?_⟩
    ·simp only [results,Tryz.results192];go_simp
    ·rw [ek,show dM l st=(st',some p) from (by rw [← HK.out];exact HR.out)];exact ⟨rfl,hfin⟩
  ·obtain ⟨⟨st',q⟩,hr⟩:∃ r,d8 2 l sk=r:=⟨_,rfl⟩
   have hcon:=λ w h=>mB w g A cap l sk h hl hpk hsk
   rw [show iu l sk=(st',q) from hr] at hcon;have hle:=dX hr hpk hsk;unfold kR;cases q with
   |none =>
    have HC:=aW (show ∀ w,NB w g A cap l sk->Calls Tryz.prog 220 #[Zp (some ⟨g,0,none⟩)] w (λ e w'=>e=.returned (.tuple #[])/\bf w g A cap l st' w') from λ w h=>hcon w h);have HR:=aW (dc (ks:=[3]) hr);clear hcon hr;go_wp2_with (go_at_call 220;refine (HC.out _ hst).mono ?_;rintro e w2 ⟨rfl,hw2⟩);go_roundw
    case rel =>
     exact ⟨3,by omega,rfl,trivial,st',hle.1,hle.2,HK.out.symm ▸ HR.out.symm,hw2.1,b0.grown hw2.2 hg0,b1.grown hw2.2 hg1,ag hgr hw2.2⟩
    case measure=>simp [intOf]
   |some p =>
    have HC:=aW (show ∀ w,NB w g A cap l sk->Calls Tryz.prog 220 #[Zp (some ⟨g,0,none⟩)] w (λ e w'=>e=.panicked [{ v:=.iface 254 (Zi Zq p),recovered:=false }]/\bf w g A cap l st' w') from λ w h=>hcon w h);have HR:=aW (dO (ks:=[3]) hr);clear hcon hr;go_wp2_with (go_at_call 220;refine (HC.out _ hst).mono ?_;rintro e w2 ⟨rfl,hw2⟩);have c0:=b0.grown hw2.2 hg0;have c1:=b1.grown hw2.2 hg1;refine leaves_cons (f:=205) (args:=#[Zp (some ⟨w.heap.size,0,none⟩),Zp (some ⟨w.heap.size+1,0,none⟩)]) (by simp) (by simp [go_sem]) ?_;refine (ey w.heap.size (w.heap.size+1) p _ _ w2 (by omega) (c0.cell 0) (c0.frozen 0) (c1.cell 0) (c1.frozen 0)).mono ?_;rintro e u' w3 ⟨rfl,rfl,rfl⟩;obtain ⟨r0,r1,hfin⟩:=fU w g A cap l st' p 7 hlt w2 hw2.1 c0 c1 (ag hgr hw2.2);refine ⟨.tuple #[Zi Zq p,Zi Zq 7],?_,?_⟩
    ·simp only [results,Tryz.results192];go_simp
    ·rw [ek,show dM l st=(st',some p) from (by rw [← HK.out];exact HR.out)];exact ⟨rfl,hfin⟩
  ·obtain ⟨⟨st',q⟩,hr⟩:∃ r,d8 3 l sk=r:=⟨_,rfl⟩
   have hcon:=λ w h=>mz w g A cap l sk h hl hpk hsk
   rw [show my l sk=(st',q) from hr] at hcon;have hle:=dX hr hpk hsk;unfold kR;cases q with
   |none =>
    have HC:=aW (show ∀ w,NB w g A cap l sk->Calls Tryz.prog 221 #[Zp (some ⟨g,0,none⟩)] w (λ e w'=>e=.returned (.tuple #[])/\bf w g A cap l st' w') from λ w h=>hcon w h);have HR:=aW (dc (ks:=[]) hr);clear hcon hr;go_wp2_with (go_at_call 221;refine (HC.out _ hst).mono ?_;rintro e w2 ⟨rfl,hw2⟩);go_roundw
    case rel =>
     exact ⟨4,by omega,rfl,trivial,st',hle.1,hle.2,HK.out.symm ▸ HR.out.symm,hw2.1,b0.grown hw2.2 hg0,b1.grown hw2.2 hg1,ag hgr hw2.2⟩
    case measure=>simp [intOf]
   |some p =>
    have HC:=aW (show ∀ w,NB w g A cap l sk->Calls Tryz.prog 221 #[Zp (some ⟨g,0,none⟩)] w (λ e w'=>e=.panicked [{ v:=.iface 254 (Zi Zq p),recovered:=false }]/\bf w g A cap l st' w') from λ w h=>hcon w h);have HR:=aW (dO (ks:=[]) hr);clear hcon hr;go_wp2_with (go_at_call 221;refine (HC.out _ hst).mono ?_;rintro e w2 ⟨rfl,hw2⟩);have c0:=b0.grown hw2.2 hg0;have c1:=b1.grown hw2.2 hg1;refine leaves_cons (f:=205) (args:=#[Zp (some ⟨w.heap.size,0,none⟩),Zp (some ⟨w.heap.size+1,0,none⟩)]) (by simp) (by simp [go_sem]) ?_;refine (ey w.heap.size (w.heap.size+1) p _ _ w2 (by omega) (c0.cell 0) (c0.frozen 0) (c1.cell 0) (c1.frozen 0)).mono ?_;rintro e u' w3 ⟨rfl,rfl,rfl⟩;obtain ⟨r0,r1,hfin⟩:=fU w g A cap l st' p 7 hlt w2 hw2.1 c0 c1 (ag hgr hw2.2);refine ⟨.tuple #[Zi Zq p,Zi Zq 7],?_,?_⟩
    ·simp only [results,Tryz.results192];go_simp
    ·rw [ek,show dM l st=(st',some p) from (by rw [← HK.out];exact HR.out)];exact ⟨rfl,hfin⟩
  ·have hNn:=HK.out;obtain ⟨hc2,hf2,_⟩:=hst.1.rules;obtain ⟨d0,f0,_⟩:=b0.rules;obtain ⟨d1,f1,_⟩:=b1.rules;unfold ay at hc2;go_wp2;obtain ⟨r0,r1,hfin⟩:=fU w g A cap l sk sk.pos 0 hlt wr hst b0 b1 hgr;refine leaves_cons (f:=205) (args:=#[Zp (some ⟨w.heap.size,0,none⟩),Zp (some ⟨w.heap.size+1,0,none⟩)]) (by simp) (by simp [go_sem]) ?_;refine (oV ⟨w.heap.size,0,none⟩ ⟨w.heap.size+1,0,none⟩ _).mono ?_;rintro e u' w3 ⟨rfl,rfl,rfl⟩;refine ⟨.tuple #[Zi Zq sk.pos,Zi Zq 0],?_,?_⟩
   ·simp only [results,Tryz.results192];go_simp
   ·rw [ek,show dM l st=(sk,none) from hNn.symm];exact ⟨rfl,hfin⟩
def bT (a:Nat):NSt:={ pos:=a,minus:=false,size:=0,over:=false,part:=false }
def dL (minus:Bool):Nat:=if minus then 9223372036854775808 else 9223372036854775807
def bF (st:NSt) (a:Int):Int × Int × Int :=
 if (st.part || st.over || decide (dL st.minus<st.size))=true then (0,a,130) else ((if st.minus then -(st.size:Int) else st.size),st.pos,0)
def co (l:List UInt8) (a:Int):Int × Int × Int :=
 if a<0∨(l.length:Int)<a then (0,0,2) else
 match dM l (bT a.toNat) with
 | (_,some p)=>(0,p,7)
 | (st,none)=>bF st a
theorem lV {l:List UInt8}:∀ {ks:List Nat} {st st':NSt} {q:Option Nat},jN l ks st=(st',q)->st.pos<=l.length->st.size<18446744073709551616->st'.size<18446744073709551616
 |[],st,st',q,h,_,hs=>by
  simp only [jN,Prod.mk.injEq] at h;rw [← h.1];exact hs
 |k::ks,st,st',q,h,hp,hs=>by
  obtain ⟨⟨s1,r⟩,hr⟩:∃ r,d8 k l st=r:=⟨_,rfl⟩
  have hle:=dX hr hp hs;cases r with
  | none=>rw [dc hr] at h;exact lV h hle.1 hle.2
  |some p =>
   rw [dO hr] at h;simp only [Prod.mk.injEq] at h;rw [← h.1];exact hle.2
theorem tf {k:Nat} (h:k<=9223372036854775808):wrap64 (IntKind.u64.wrap (-(k:Int))) = -(k:Int):=by
 unfold wrap64;rw [IntKind.wrap_u64];omega
theorem tp {k:Nat} (h:k<=9223372036854775807):wrap64 (k:Int)=(k:Int):=by
 unfold wrap64;omega
def ud (r:Int × Int × Int) (w:World) (e:Ending) (w':World):Prop :=
 e=.returned (.tuple #[Zi Zq r.1,Zi Zq r.2.1,Zi Zq r.2.2])/\Below w.heap.size w w'
theorem oq (w:World) (v:Value) (l:List UInt8) (a:Int) (hv:BS w v l) (hl:l.length<=4194304) :
  Calls Tryz.prog 168 #[v,Zi Zq a] w (ud (co l a) w):=by
 obtain ⟨A,cap,rfl,hcap,hr⟩:=hv;by_cases h0:a<0
 ·unfold co;rw [if_pos (.inl h0)];go_enter Tryz.func168,Tryz.ntmps168;go_wp2;go_returns;exact ⟨rfl,by go_grown⟩
 ·obtain ⟨n,rfl⟩:∃ n:Nat,a=n:=⟨a.toNat,by omega⟩
  by_cases h1:(l.length:Int)<(n:Int)
  ·unfold co;rw [if_pos (.inr h1)];clear h0;go_enter Tryz.func168,Tryz.ntmps168;go_wp2;go_returns;exact ⟨rfl,by go_grown⟩
  ·unfold co;rw [if_neg (by omega),Int.toNat_natCast];clear h0;have hreads:=λ (w1:World) h=>rp w1 w.heap.size A cap l (bT n) h hl (by show n<=_;omega) (by show 0 < _;omega)
   obtain ⟨⟨st,q⟩,hq⟩:∃ r,dM l (bT n)=r:=⟨_,rfl⟩
   rw [hq] at hreads ⊢;have hNB:NB (w.alloc (.cells (ay A l.length cap (bT n)) 233)) w.heap.size A cap l (bT n):=⟨Blk.new _ _ _,hr.alloc _⟩
   unfold ay bT at hNB;have HNB:=aW hNB;clear hNB;cases q with
   |some p =>
    have HR:=aW (show ∀ w1,NB w1 w.heap.size A cap l (bT n)->Calls Tryz.prog 192 #[Zp (some ⟨w.heap.size,0,none⟩)] w1 (λ e w'=>e=.returned (.tuple #[Zi Zq p,Zi Zq 7])/\bf w1 w.heap.size A cap l st w') from hreads);clear hreads hq;go_enter Tryz.func168,Tryz.ntmps168;go_wp2_with (go_at_call 192;refine (HR.out _ HNB.out).mono ?_;rintro e w1 ⟨rfl,hw1⟩);go_returns;exact ⟨rfl,((Below.refl w.heap.size w).alloc (Nat.le_refl _) _).grown hw1.2 (by simp) (by simp)⟩
   |none =>
    have HR:=aW (show ∀ w1,NB w1 w.heap.size A cap l (bT n)->Calls Tryz.prog 192 #[Zp (some ⟨w.heap.size,0,none⟩)] w1 (λ e w'=>e=.returned (.tuple #[Zi Zq st.pos,Zi Zq 0])/\bf w1 w.heap.size A cap l st w') from hreads);clear hreads;have hsz:st.size<18446744073709551616:=lV hq (by show n<=_;omega) (by show 0 < _;omega);clear hq;obtain ⟨pos,minus,size,over,part⟩:=st;cases minus<;>cases part<;>cases over
    ·by_cases hb:size<=9223372036854775807
     ·have hwr:=tp hb;go_enter Tryz.func168,Tryz.ntmps168;go_wp2_with (go_at_call 192;refine (HR.out _ HNB.out).mono ?_;rintro e w1 ⟨rfl,hw1⟩;obtain ⟨hc,_,_⟩:=hw1.1.1.rules;unfold ay at hc);go_returns;refine ⟨?_,((Below.refl w.heap.size w).alloc (Nat.le_refl _) _).grown hw1.2 (by simp) (by simp)⟩;rw [show bF { pos:=pos,minus:=false,size:=size,over:=false,part:=false } (n:Int)=((size:Int),(pos:Int),0) from by simp [bF,dL];omega];rfl
     ·skip
      go_enter Tryz.func168,Tryz.ntmps168;go_wp2_with (go_at_call 192;refine (HR.out _ HNB.out).mono ?_;rintro e w1 ⟨rfl,hw1⟩;obtain ⟨hc,_,_⟩:=hw1.1.1.rules;unfold ay at hc);go_returns;refine ⟨?_,((Below.refl w.heap.size w).alloc (Nat.le_refl _) _).grown hw1.2 (by simp) (by simp)⟩;rw [show bF { pos:=pos,minus:=false,size:=size,over:=false,part:=false } (n:Int)=(0,(n:Int),130) from by simp [bF,dL];omega];rfl
    ·skip
     go_enter Tryz.func168,Tryz.ntmps168;go_wp2_with (go_at_call 192;refine (HR.out _ HNB.out).mono ?_;rintro e w1 ⟨rfl,hw1⟩;obtain ⟨hc,_,_⟩:=hw1.1.1.rules;unfold ay at hc);go_returns;refine ⟨?_,((Below.refl w.heap.size w).alloc (Nat.le_refl _) _).grown hw1.2 (by simp) (by simp)⟩;rw [show bF { pos:=pos,minus:=false,size:=size,over:=true,part:=false } (n:Int)=(0,(n:Int),130) from by simp [bF,dL]];rfl
    ·skip
     go_enter Tryz.func168,Tryz.ntmps168;go_wp2_with (go_at_call 192;refine (HR.out _ HNB.out).mono ?_;rintro e w1 ⟨rfl,hw1⟩;obtain ⟨hc,_,_⟩:=hw1.1.1.rules;unfold ay at hc);go_returns;refine ⟨?_,((Below.refl w.heap.size w).alloc (Nat.le_refl _) _).grown hw1.2 (by simp) (by simp)⟩;rw [show bF { pos:=pos,minus:=false,size:=size,over:=false,part:=true } (n:Int)=(0,(n:Int),130) from by simp [bF,dL]];rfl
    ·skip
     go_enter Tryz.func168,Tryz.ntmps168;go_wp2_with (go_at_call 192;refine (HR.out _ HNB.out).mono ?_;rintro e w1 ⟨rfl,hw1⟩;obtain ⟨hc,_,_⟩:=hw1.1.1.rules;unfold ay at hc);go_returns;refine ⟨?_,((Below.refl w.heap.size w).alloc (Nat.le_refl _) _).grown hw1.2 (by simp) (by simp)⟩;rw [show bF { pos:=pos,minus:=false,size:=size,over:=true,part:=true } (n:Int)=(0,(n:Int),130) from by simp [bF,dL]];rfl
    ·by_cases hb:size<=9223372036854775808
     ·have hwr:=tf hb;go_enter Tryz.func168,Tryz.ntmps168;go_wp2_with (go_at_call 192;refine (HR.out _ HNB.out).mono ?_;rintro e w1 ⟨rfl,hw1⟩;obtain ⟨hc,_,_⟩:=hw1.1.1.rules;unfold ay at hc);go_returns;refine ⟨?_,((Below.refl w.heap.size w).alloc (Nat.le_refl _) _).grown hw1.2 (by simp) (by simp)⟩;rw [show bF { pos:=pos,minus:=true,size:=size,over:=false,part:=false } (n:Int)=(-(size:Int),(pos:Int),0) from by simp [bF,dL];omega];show Ending.returned (.tuple #[Zi Zq (wrap64 (IntKind.u64.wrap (-(size:Int)))),_,_])=_
      rw [hwr];rfl
     ·skip
      go_enter Tryz.func168,Tryz.ntmps168;go_wp2_with (go_at_call 192;refine (HR.out _ HNB.out).mono ?_;rintro e w1 ⟨rfl,hw1⟩;obtain ⟨hc,_,_⟩:=hw1.1.1.rules;unfold ay at hc);go_returns;refine ⟨?_,((Below.refl w.heap.size w).alloc (Nat.le_refl _) _).grown hw1.2 (by simp) (by simp)⟩;rw [show bF { pos:=pos,minus:=true,size:=size,over:=false,part:=false } (n:Int)=(0,(n:Int),130) from by simp [bF,dL];omega];rfl
    ·skip
     go_enter Tryz.func168,Tryz.ntmps168;go_wp2_with (go_at_call 192;refine (HR.out _ HNB.out).mono ?_;rintro e w1 ⟨rfl,hw1⟩;obtain ⟨hc,_,_⟩:=hw1.1.1.rules;unfold ay at hc);go_returns;refine ⟨?_,((Below.refl w.heap.size w).alloc (Nat.le_refl _) _).grown hw1.2 (by simp) (by simp)⟩;rw [show bF { pos:=pos,minus:=true,size:=size,over:=true,part:=false } (n:Int)=(0,(n:Int),130) from by simp [bF,dL]];rfl
    ·skip
     go_enter Tryz.func168,Tryz.ntmps168;go_wp2_with (go_at_call 192;refine (HR.out _ HNB.out).mono ?_;rintro e w1 ⟨rfl,hw1⟩;obtain ⟨hc,_,_⟩:=hw1.1.1.rules;unfold ay at hc);go_returns;refine ⟨?_,((Below.refl w.heap.size w).alloc (Nat.le_refl _) _).grown hw1.2 (by simp) (by simp)⟩;rw [show bF { pos:=pos,minus:=true,size:=size,over:=false,part:=true } (n:Int)=(0,(n:Int),130) from by simp [bF,dL]];rfl
    ·skip
     go_enter Tryz.func168,Tryz.ntmps168;go_wp2_with (go_at_call 192;refine (HR.out _ HNB.out).mono ?_;rintro e w1 ⟨rfl,hw1⟩;obtain ⟨hc,_,_⟩:=hw1.1.1.rules;unfold ay at hc);go_returns;refine ⟨?_,((Below.refl w.heap.size w).alloc (Nat.le_refl _) _).grown hw1.2 (by simp) (by simp)⟩;rw [show bF { pos:=pos,minus:=true,size:=size,over:=true,part:=true } (n:Int)=(0,(n:Int),130) from by simp [bF,dL]];rfl
end
end Go.Proofs.YtgmnmnnoahdjnaaGreatDoor
