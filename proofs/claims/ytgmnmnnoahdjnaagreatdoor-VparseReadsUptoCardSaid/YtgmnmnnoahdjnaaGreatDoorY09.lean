import Derived.Test.YtgmnmnnoahdjnaaGreatDoorY07
import Derived.Test.YtgmnmnnoahdjnaaGreatDoorY08
open Go.Value renaming int → Zi, slice → Zs, string → Zt, pointer → Zp
open Go.IntKind renaming i64 → Zq
set_option maxRecDepth 100000
set_option maxHeartbeats 16000000
set_option linter.unusedVariables false
set_option linter.unusedSimpArgs false
namespace Go.Proofs.YtgmnmnnoahdjnaaGreatDoor
section
open Go.RowKit
def TT:Nat->Prop:=λ _=>True
def iw (n:Int):Prop:=-9223372036854775808<=n/\n<=9223372036854775807
mutual
def inJ:JV->Prop | .mk k n s kids keys=>iw k/\iw n/\inL kids
def inL:List JV->Prop | []=>True | x::r=>inJ x/\inL r
end
theorem sd:∀ {xs:List JV},inL xs ↔ ∀ x ∈ xs,inJ x
 | []=>by simp [inL]
 | x::r=>by simp [inL,sd (xs:=r)]
def ic:List (List UInt8)->Nat | []=>0 | k::r=>k.length+1+ic r
mutual
/-- how much a value is -/
def fE:JV->Nat | .mk k n s kids keys=>1+s.length+ic keys+ga kids
def ga:List JV->Nat | []=>0 | x::r=>fE x+ga r
end
theorem sU (v:JV):1<=fE v:=by cases v;unfold fE;omega
theorem nh:∀ ks:List (List UInt8),ks.length<=ic ks
 | []=>Nat.zero_le _
 | k::r=>by have:=nh r;unfold ic;rw [List.length_cons];omega
theorem px:∀ {ks:List (List UInt8)} {t:List UInt8},t ∈ ks->t.length+1<=ic ks
 |k::r,t,h=>by
  unfold ic;rcases List.mem_cons.1 h with rfl | h
  ·omega
  ·have:=px h;omega
theorem ni:∀ xs:List JV,xs.length<=ga xs
 | []=>Nat.zero_le _
 | x::r=>by have:=ni r;have:=sU x;unfold ga;rw [List.length_cons];omega
mutual
theorem mf:∀ v:JV,a7 v<=fE v
 | .mk k n s kids keys=>by have:=kO kids;unfold a7 fE;omega
theorem kO:∀ xs:List JV,bd xs<=ga xs
 | []=>Nat.le_refl _
 | x::r=>by have:=mf x;have:=kO r;unfold bd ga;omega
end
mutual
/-- the lengths of a value's parts -/
def tm:JV->Prop | .mk k n s kids keys=>s.length<=4194304/\kids.length<=4194304/\keys.length<=4194304/\(∀ t ∈ keys,t.length<=4194304)/\rm kids
def rm:List JV->Prop | []=>True | x::r=>tm x/\rm r
end
theorem pX:∀ {xs:List JV},rm xs ↔ ∀ x ∈ xs,tm x
 | []=>by simp [rm]
 | x::r=>by simp [rm,pX (xs:=r)]
mutual
theorem nH:∀ v:JV,fE v<=4194304->tm v
 | .mk k n s kids keys,h=>by
  unfold fE at h;have:=nh keys;have:=ni kids;unfold tm;exact ⟨by omega,by omega,by omega,λ t ht=>by have:=px ht;omega,nI kids (by omega)⟩
theorem nI:∀ xs:List JV,ga xs<=4194304->rm xs
 | [],_=>trivial
 | x::r,h=>by unfold ga at h;unfold rm;exact ⟨nH x (by omega),nI r (by omega)⟩
end
theorem nL:∀ {xs:List JV} {x:JV},x ∈ xs->a7 x<=bd xs
 |y::r,x,h=>by
  unfold bd;rcases List.mem_cons.1 h with rfl | h
  ·omega
  ·have:=nL h;omega
structure dc (v:JV):Prop where
 ints:inJ v
 nodes:a7 v<=4194304
 lens:tm v
theorem dc.of {v:JV} (h1:inJ v) (h2:fE v<=4194304):dc v:=⟨h1,Nat.le_trans (mf v) h2,nH v h2⟩
theorem dc.out {k n:Int} {s:List UInt8} {kids:List JV} {keys:List (List UInt8)} (h:dc (.mk k n s kids keys)) :
  iw k/\iw n/\s.length<=4194304/\kids.length<=4194304/\keys.length<=4194304/\(∀ t ∈ keys,t.length<=4194304)/\∀ x ∈ kids,dc x:=by
 obtain ⟨h1,h2,h3⟩:=h;unfold inJ at h1;unfold a7 at h2;unfold tm at h3;refine ⟨h1.1,h1.2.1,h3.1,h3.2.1,h3.2.2.1,h3.2.2.2.1,λ x hx=>⟨sd.1 h1.2.2 x hx,?_,pX.1 h3.2.2.2.2 x hx⟩⟩;have:=nL hx;omega
instance:Inhabited JV:=⟨cS⟩
end
section
open Go.RowKit
attribute [local go_sem] aa ac ae ab
theorem qC (n p:Int) (w:World) (h0:0<=n) (h1:n<=4194304):Calls Tryz.prog 201 #[Zi Zq n,Zi Zq p] w λ e w'=>e=.returned (Zi Zq (n+1))/\w=w':=by
 go_enter Tryz.func201,Tryz.ntmps201;go_wp2;go_ret;exact ⟨rfl,rfl⟩
def fe (s:List UInt8):Int:=if cA s=true then 0 else 110
theorem ph (s:List UInt8) (w:World) (hG:GOK w) (hl:s.length<=4194304) :
  Calls Tryz.prog 200 #[Zt ⟨s.toArray⟩,Zi Zq 0,.func (.func 201) #[] #[]] w λ e w'=>(∃ n p:Int,e=.returned (.tuple #[Zi Zq n,Zi Zq p,Zi Zq (fe s)]))/\Below w.heap.size w w':=by
 obtain ⟨ba,hba⟩:∃ ba:ByteArray,(⟨s.toArray⟩:ByteArray)=ba:=⟨_,rfl⟩
 have hsl:sl ba=s:=by rw [← hba,eO]
 rw [hba];obtain ⟨cap,W1,hcv,hcap,hb1,hs1,hr1⟩:=fm (P:=Tryz.prog) w 9 67 5 ba Tryz.underlying9 Tryz.underlying67 Tryz.underlying5;rw [hsl] at hr1;have hsz:ba.size=s.length:=by rw [← hsl,bL]
 rw [hsz] at hcv hcap;have HR:=aW hr1;have HB1:=aW hb1;have hlt1:w.heap.size<W1.heap.size:=by omega
 clear hr1 hb1 hsl hba hsz hs1;have HGK:=aW hG;clear hG;have HCN:=aW (λ n p w h0 h1=>qC n p w h0 h1);obtain ⟨er,her⟩:∃ er,fe s=er:=⟨_,rfl⟩
 rw [her];have HER:=aW her;clear her;go_enter Tryz.func200,Tryz.ntmps200;go_wp2;go_loopg [1,10] s.length (λ gk s1 s10 wr => ∃ (p n:Nat),p<=s.length/\n<=p/\gk=s.length-p/\s1=Zi Zq n/\s10=Zi Zq p/\Hid (fe s=fe (s.drop p))/\Hid (Below W1.heap.size W1 wr))
 case atStart=>exact ⟨0,0,Nat.zero_le _,Nat.le_refl _,rfl,by go_num,by go_num,aW (by rw [List.drop_zero]),aW (Below.refl _ _)⟩
 case round =>
  obtain ⟨p,n,hp,hnp,hgk,rfl,rfl,HQ,HW⟩:=hrel;have HG:=aW hgk;clear hgk;by_cases hlt:p<s.length
  ·obtain ⟨c,m,hcm⟩:∃ c m,ak (s.drop p)=(c,m):=⟨_,_,rfl⟩
   have hne:s.drop p≠[]:=by intro e;have h:=congrArg List.length e;rw [List.length_drop] at h;simp at h;omega
   have hle:=kF (s.drop p);have hst:=jv hne;rw [hcm] at hle hst;rw [List.length_drop] at hle;have hpn:p+m<=s.length:=by have:=hle.1;simp only at this;omega
   have hm4:m<=4:=hle.2;rw [List.drop_drop] at hst;have HST:=aW hst;have hW:=HB1.out.trans (HW.out.mono HB1.out.size);have hcell:∀ i x,(s.drop p)[i]? = some x->wr.cell? ⟨w.heap.size,p+i,none⟩=some (Zi .u8 x.toNat):=λ i x hx=>by
    rw [List.getElem?_drop] at hx;have h:=BS.at_ (n:=0) (cap:=0) (HR.out.below HW.out) hx;rwa [Nat.zero_add] at h
   have hNX:=p7 w.heap.size p (cap-p) (s.drop p) wr hne (HGK.out.keep hW) (by have:=HW.out.size;omega) hcell (by rw [List.length_drop];omega) (by rw [List.length_drop];omega);rw [hcm,List.length_drop] at hNX;have HNX:=aW hNX;have hcapp:¬ cap=p:=by omega
   clear hNX hcell hW hcm hne hle hst;by_cases hm0:m=0
   ·subst hm0;have hu:er=110:=by
     rw [← HER.out,HQ.out];unfold fe;rw [HST.out,if_pos rfl];rfl
    subst hu;go_wp2_with fail;refine HNX.out.mono ?_;rintro e w1 ⟨rfl,hb2⟩;have HW2:=aW (HW.out.trans (hb2.mono HW.out.size));clear hb2;go_wp2;go_ret3;exact ⟨⟨_,_,rfl⟩,HB1.out.trans (HW2.out.mono HB1.out.size)⟩
   ·have hm1:((m:Int) == 0)=false:=by simp;omega
    have HQ2:=aW (show fe s=fe (s.drop (p+m)) by rw [HQ.out];unfold fe;rw [HST.out,if_neg hm0]);go_wp2_with fail;refine HNX.out.mono ?_;rintro e w1 ⟨rfl,hb2⟩;have HW2:=aW (HW.out.trans (hb2.mono HW.out.size));clear hb2;go_wp2_with fail;refine (HCN.out n c _ (by omega) (by omega)).mono ?_;rintro e w2 ⟨rfl,rfl⟩;go_wp2;go_roundg (s.length-(p+m))
    case measure=>rw [HG.out];omega
    case rel=>exact ⟨p+m,n+1,hpn,by omega,rfl,by go_num,by go_num,HQ2,HW2⟩
  ·obtain rfl:p=s.length:=by omega
   have hu:er=0:=by
    rw [← HER.out,HQ.out,List.drop_length];rfl
   subst hu;go_wp2;go_ret3;exact ⟨⟨_,_,rfl⟩,HB1.out.trans (HW.out.mono HB1.out.size)⟩
theorem jw (s:List UInt8) (w:World) (hG:GOK w) (hl:s.length<=4194304):Calls Tryz.prog 185 #[Zt ⟨s.toArray⟩] w λ e w'=>(∃ p:Int,e=.returned (.tuple #[Zi Zq p,Zi Zq (fe s)]))/\Below w.heap.size w w':=by
 have HT:=aW (ph s w hG hl);clear hl hG;obtain ⟨er,her⟩:∃ er,fe s=er:=⟨_,rfl⟩
 rw [her] at HT ⊢;clear her;go_enter Tryz.func185,Tryz.ntmps185;go_wp2_with fail;refine HT.out.mono ?_;rintro e w1 ⟨⟨n,p,rfl⟩,hb⟩;have HB:=aW hb;clear hb;go_wp2;go_ret2;exact ⟨⟨_,rfl⟩,HB.out⟩
theorem qp (v:Value) (l:List UInt8) (w:World) (hv:BS w v l) (hl:l.length<=4194304) :
  Calls Tryz.prog 165 #[v] w λ e w'=>(∃ u p,e=.returned (.tuple #[u,p,.bool (cA l)]))/\Below w.heap.size w w':=by
 obtain ⟨i0,hi,hz0,hz1,hz2⟩:=info_parts oS;obtain ⟨A,cap,rfl,hcap,hr⟩:=hv;obtain ⟨er,her⟩:∃ er,cA l=er:=⟨_,rfl⟩
 rw [her];have HER:=aW her;have HR:=aW hr;have HI:=aW hi;clear hr hi her;go_enter Tryz.func165,Tryz.ntmps165;go_wp2;go_loopg [5,6] l.length (λ gk s5 s6 wr => ∃ (p:Nat) (pre:List Nat),p<=l.length/\pre.length<=p/\gk=l.length-p/\s6=Zi Zq p/\Hid (cA l=cA (l.drop p)) /\
  wr.ownsRow w.heap.size 3 1 s5 pre.length (jo (pre.map λ n:Nat=>(n:Int)))/\Below w.heap.size w wr)
 case atStart=>exact ⟨0,[],Nat.zero_le _,Nat.le_refl _,rfl,by go_num,aW (by rw [List.drop_zero]),World.ownsRow_nil _ _ _ _,Below.refl _ _⟩
 case round =>
  obtain ⟨p,pre,hp,hpp,hgk,rfl,HQ,hown,hbw⟩:=hrel;have HG:=aW hgk;clear hgk;by_cases hlt:p<l.length
  ·obtain ⟨b,o,rfl,hb⟩:=HR.out.some_ (show 0<l.length by omega);obtain ⟨c,n,hcm⟩:∃ c m,ak (l.drop p)=(c,m):=⟨_,_,rfl⟩
   have hne:l.drop p≠[]:=by intro e;have h:=congrArg List.length e;rw [List.length_drop] at h;simp at h;omega
   have hle:=kF (l.drop p);have hst:=jv hne;rw [hcm] at hle hst;rw [List.length_drop] at hle;have hpn:p+n<=l.length:=by have:=hle.1;simp only at this;omega
   rw [List.drop_drop] at hst;have HST:=aW hst;have hB:=mp (Zs (some ⟨b,o+p,none⟩) (l.length-p) (cap-p)) (l.drop p) wr (BS.dropN (n:=0) (HR.out.below hbw) hcap p hp) (by rw [List.length_drop];omega);rw [hcm] at hB;have HB:=aW hB;have hcapp:¬ cap=p:=by omega
   clear hB hcm hne hle hst;by_cases hn0:n=0
   ·subst hn0;have hu:er=false:=by rw [← HER.out,HQ.out,HST.out,if_pos rfl]
    subst hu;go_wp2_with fail;refine HB.out.mono ?_;rintro e w1 ⟨rfl,hb1⟩;go_wp2;go_ret3;exact ⟨⟨_,_,rfl⟩,hbw.trans (hb1.mono hbw.size)⟩
   ·have hn1:((n:Int) == 0)=false:=by simp;omega
    have HQ2:=aW (show cA l=cA (l.drop (p+n)) by rw [HQ.out,HST.out,if_neg hn0]);go_wp2_with fail;refine HB.out.mono ?_;rintro e w1 ⟨rfl,hb1⟩;have hown1:=dS hown hb1;go_wp2_with (at_builtin;refine wpList_append_own _ rfl _ _ 176 rfl w.heap.size 3 i0 (Zi Zq 0) 1 8 Tryz.underlying176 HI.out hz0 hz1 hz2 rfl (by decide) _ _ _ rfl (hown1.alloc _) ⟨w1.heap.size,0,none⟩ 1 1 [Zi Zq c] rfl rfl (cell_one_new _ _ _) (by simp [Value.oneCell']) (by unfold maxLen;omega) (by omega) (by have:=hbw.size;have:=hb1.size;simp;omega) ?_;intro v' w2 hown2 hgr2 _);go_roundg (l.length-(p+n))
    case measure=>rw [HG.out];omega
    case rel =>
     have s1:=hbw.size;have s2:=hb1.size;refine ⟨p+n,pre++[c],hpn,by rw [List.length_append,List.length_singleton];omega,rfl,by go_num,HQ2,?_,?_⟩
     ·rw [List.length_append,List.length_singleton];have e:jo ((pre++[c]).map λ n:Nat=>(n:Int))=jo (pre.map λ n:Nat=>(n:Int))++[Zi Zq c]:=by simp [jo]
      rw [e];exact hown2
     ·refine ((hbw.trans (hb1.mono s1)).alloc (by omega) _).grown hgr2 (by simp;omega) (λ k e=>?_);exact (hown1.lt k e).1
  ·obtain rfl:p=l.length:=by omega
   have hu:er=true:=by rw [← HER.out,HQ.out,List.drop_length];rfl
   subst hu;go_wp2;go_ret3;exact ⟨⟨_,_,rfl⟩,hbw⟩
theorem mu (s:List UInt8) (w:World) (hl:s.length<=4194304):Calls Tryz.prog 226 #[Zt ⟨s.toArray⟩] w λ e w'=>e=.returned (.bool (cA s))/\Below w.heap.size w w':=by
 obtain ⟨ba,hba⟩:∃ ba:ByteArray,(⟨s.toArray⟩:ByteArray)=ba:=⟨_,rfl⟩
 have hsl:sl ba=s:=by rw [← hba,eO]
 rw [hba];obtain ⟨cap,W1,hcv,hcap,hb1,hs1,hr1⟩:=fm (P:=Tryz.prog) w 9 67 5 ba Tryz.underlying9 Tryz.underlying67 Tryz.underlying5;have hP:=qp (Zs (some ⟨w.heap.size,0,none⟩) ba.size cap) s W1 (by rw [← hsl];exact ⟨_,_,by rw [bL],by rw [bL];exact hcap,hr1⟩) hl;have HP:=aW hP;have HB1:=aW hb1;clear hP hr1 hsl hba hcap hb1 hl;obtain ⟨er,her⟩:∃ er,cA s=er:=⟨_,rfl⟩
 rw [her] at HP ⊢;clear her;go_enter Tryz.func226,Tryz.ntmps226;go_wp2_with fail;refine HP.out.mono ?_;rintro e w2 ⟨⟨u,p,rfl⟩,hb2⟩;have HB2:=aW (HB1.out.trans (hb2.mono HB1.out.size));clear hb2;go_wp2;go_ret;exact ⟨rfl,HB2.out⟩
def cq (A:Option Addr) (n cap:Nat) (p why:Int):Array Value:=#[Zi Zq p,Zi Zq why,Zs A n cap]
def VB (w:World) (g:Nat) (A:Option Addr) (cap:Nat) (l:List UInt8) (p why:Int):Prop:=Blk w g 113 (cq A l.length cap p why)/\Rd w A (aq l)
def aP (w:World) (g:Nat) (A:Option Addr) (cap:Nat) (l:List UInt8) (p why:Int) (w':World):Prop:=VB w' g A cap l p why/\w.grownBy w' (some g)
section
variable {w w':World} {g:Nat} {A:Option Addr} {cap:Nat} {l:List UInt8} {p why p' why':Int}
theorem ov {m:Nat}:∀ (i:Nat) (c:Int),(cq A m cap p why)[i]? = some (Value.int .u8 c)->False:=by
 intro i c h;unfold cq at h
 match i with
 | 0 | 1 | 2=>simp at h
 | i+3=>simp at h
theorem VB.drewN (h:VB w g A cap l p why) (k:Nat):VB (w.drewN k) g A cap l p why:=⟨h.1.drewN k,h.2.drewN k⟩
theorem VB.keep (h:VB w g A cap l p why) (hb:Below w.heap.size w w'):VB w' g A cap l p why:=⟨h.1.keep hb,h.2.below hb⟩
theorem VB.set0 (h:VB w g A cap l p why) (q:Int):VB (w.setCell ⟨g,0,none⟩ (Zi Zq q)) g A cap l q why :=
 ⟨by have:=h.1.set_ 0 (Zi Zq q);simpa [cq] using this,h.2.setCell (h.2.ne_blk h.1 ov) _ _⟩
theorem VB.set1 (h:VB w g A cap l p why) (q:Int):VB (w.setCell ⟨g,1,none⟩ (Zi Zq q)) g A cap l p q :=
 ⟨by have:=h.1.set_ 1 (Zi Zq q);simpa [cq] using this,h.2.setCell (h.2.ne_blk h.1 ov) _ _⟩
theorem aP.refl (h:VB w g A cap l p why):aP w g A cap l p why w:=⟨h,dw _ _⟩
theorem aP.trans {w'':World} (h:aP w g A cap l p why w') (k:aP w' g A cap l p' why' w''):aP w g A cap l p' why' w'':=⟨k.1,ag h.2 k.2⟩
theorem aP.drewN (h:aP w g A cap l p why w') (k:Nat):aP w g A cap l p why (w'.drewN k):=⟨h.1.drewN k,gv h.2 k⟩
theorem aP.keep {w'':World} (h:aP w g A cap l p why w') (hb:Below w'.heap.size w' w''):aP w g A cap l p why w'' :=
 ⟨h.1.keep hb,ag h.2 ⟨hb.os,hb.tape,hb.output,hb.size,λ i hi _=>hb.block i hi⟩⟩
theorem aP.set0 (h:aP w g A cap l p why w') (q:Int):aP w g A cap l q why (w'.setCell ⟨g,0,none⟩ (Zi Zq q)):=⟨h.1.set0 q,aH h.2 _ _⟩
theorem aP.set1 (h:aP w g A cap l p why w') (q:Int):aP w g A cap l p q (w'.setCell ⟨g,1,none⟩ (Zi Zq q)):=⟨h.1.set1 q,aH h.2 _ _⟩
theorem aP.alloc (h:aP w g A cap l p why w') (o:Obj):aP w g A cap l p why (w'.alloc o):=h.keep ((Below.refl _ _).alloc (Nat.le_refl _) _)
theorem aP.new (h:aP w g A cap l p why w') {k:Nat} {t:TypeId} {cs:Array Value} (hb:Blk w' k t cs) (hcs:∀ (i:Nat) (c:Int),cs[i]? = some (Value.int .u8 c)->False) (hk:w.heap.size<=k) (hg:g<w.heap.size) (i:Nat) (u:Value) :
  aP w g A cap l p why (w'.setCell ⟨k,i,none⟩ u) :=
 ⟨⟨h.1.1.far (p:=⟨k,i,none⟩) (by simp;omega) u,h.1.2.setCell (h.1.2.ne_blk hb hcs) i u⟩,dn h.2 _ _ hk⟩
end
def k8 (k:Int) (p:Int) (s:ByteArray) (n:Int):Value:=.agg #[Zi Zq k,Zi Zq p,Zt s,Zi Zq n]
def fh:Value:=.agg #[Zi Zq 0,Zi Zq 0,Zt ⟨#[]⟩,Zi Zq 0]
theorem gq (w:World) (g:Nat) (A:Option Addr) (cap:Nat) (l:List UInt8) (p why q e:Int) (hV:VB w g A cap l p why) :
  Calls Tryz.prog 167 #[Zp (some ⟨g,0,none⟩),Zi Zq q,Zi Zq e] w λ x w'=>x=.returned fh/\aP w g A cap l q e w':=by
 obtain ⟨hc,hf,hlt⟩:=hV.1.rules;have HV:=aW hV;clear hV;unfold cq at hc;go_enter Tryz.func167,Tryz.ntmps167;go_wp2;go_returns;exact ⟨rfl,(((aP.refl HV.out).set0 q).set1 e).alloc _⟩
theorem VB.byte {w:World} {g:Nat} {A:Option Addr} {cap:Nat} {l:List UInt8} {p why:Int} (h:VB w g A cap l p why) {k:Nat} {c:UInt8} (hc:l[k]? = some c) :
  ∃ b o,A=some ⟨b,o,none⟩/\b<w.heap.size/\w.cell? ⟨b,o+k,none⟩=some (Zi .u8 c.toNat):=by
 obtain ⟨hlt,e⟩:=List.getElem?_eq_some_iff.1 hc;obtain ⟨b,o,rfl,hb,hx⟩:=h.2 (by intro e;have h3:=av l;rw [e,List.length_nil] at h3;omega);exact ⟨b,o,rfl,hb,by rw [hx k (by rw [av];exact hlt)];simp [aq,e]⟩
theorem qh (w:World) (g:Nat) (A:Option Addr) (cap:Nat) (l:List UInt8) (p:Nat) (why:Int) (hV:VB w g A cap l p why) (hp:p<=l.length) (hcap:l.length<=cap) (hlen:l.length<=4194304) :
  Calls Tryz.prog 135 #[Zp (some ⟨g,0,none⟩)] w λ e w'=>e=.returned (.tuple #[])/\aP w g A cap l (bV l p) why w':=by
 have HV:=aW hV;clear hV;go_enter Tryz.func135,Tryz.ntmps135;go_wp2;go_loopg [24] (l.length-p) (λ gk _ wr => ∃ k:Nat,k<=l.length/\gk=l.length-k/\bV l p=bV l k/\aP w g A cap l k why wr)
 case atStart=>exact ⟨p,hp,rfl,rfl,aP.refl HV.out⟩
 case round =>
  obtain ⟨k,hk,hgk,hs,hst⟩:=hrel;obtain ⟨hc,hf,hlt⟩:=hst.1.1.rules;unfold cq at hc;have HS:=aW hs;have HG:=aW hgk;clear hs hgk;by_cases hkl:k<l.length
  ·obtain ⟨c,hcc⟩:∃ c,l[k]? = some c:=⟨_,List.getElem?_eq_getElem hkl⟩
   obtain ⟨b,o,rfl,hb,hx⟩:=hst.1.byte hcc;have HC:=aW hcc;clear hcc;cases hbk:cn c with
   |true =>
    have HN:=aW (mC HC.out hbk);unfold cn at hbk;have hq:c.toNat=9∨c.toNat=10∨c.toNat=13∨c.toNat=32:=by simpa using hbk
    clear hbk;rcases hq with hq | hq | hq | hq
    all_goals
     rw [hq] at hx;clear hq;go_wp2;go_quiet (fail);go_wp2;go_quiet (fail);go_wp2;go_roundg (l.length-(k+1))
     case measure=>rw [HG.out];omega
     case rel=>exact ⟨k+1,hkl,rfl,HS.out.trans HN.out,(hst.drewN _).set0 _⟩
   |false =>
    have HN:=aW (mD HC.out hbk);unfold cn at hbk;have hq:¬ (c.toNat=9∨c.toNat=10∨c.toNat=13∨c.toNat=32):=by simpa using hbk
    clear hbk;have q1:((c.toNat:Int) == 9)=false:=by simp;omega
    have q2:((c.toNat:Int) == 10)=false:=by simp;omega
    have q3:((c.toNat:Int) == 13)=false:=by simp;omega
    have q4:((c.toNat:Int) == 32)=false:=by simp;omega
    clear hq;go_wp2;go_quiet (fail);go_wp2;go_quiet (fail);go_wp2;refine bodyPost_ret (results_none rfl _ _ _) rfl ⟨rfl,?_⟩;rw [HS.out,HN.out];exact hst.drewN _
  ·have HN:=aW (n9 (l:=l) (p:=k) (by omega));obtain rfl:k=l.length:=by omega
   clear hkl;go_wp2;go_quiet (fail);go_wp2;go_end0;refine ⟨rfl,?_⟩;rw [HS.out,HN.out];exact hst.drewN _
end
end Go.Proofs.YtgmnmnnoahdjnaaGreatDoor
