import Derived.Test.YtgolomgmnanbpaaGreatDoorV18
open Go.Value renaming int → Zi, slice → Zs, string → Zt, pointer → Zp
open Go.IntKind renaming i64 → Zq
set_option maxRecDepth 100000
set_option maxHeartbeats 16000000
set_option linter.unusedVariables false
set_option linter.unusedSimpArgs false
namespace Go.Proofs.YtgolomgmnanbpaaGreatDoor
section
open Go.RowKit
attribute [local go_sem] aa ac ae ab
theorem j3 {s:List UInt8} {i:Nat} {a:UInt8} (ha:s[i]? = some a) (W:World):(Instr.index 9 (Zt ⟨s.toArray⟩) (Zi Zq (i:Int))).run Tryz.prog W=.ok (Zi .u8 a.toNat) W:=by
 obtain ⟨hi,e⟩:=List.getElem?_eq_some_iff.1 ha;have hsz:(ByteArray.mk s.toArray).size=s.length:=by simp [ByteArray.size]
 rw [run_index_string W 9 ⟨s.toArray⟩ .i64 (i:Int) Tryz.underlying9,dif_pos ⟨by omega,by rw [hsz];omega⟩];subst e;rfl
theorem bT:(Tryz.prog.info? 5).map (λ i=>(i.zero,i.size,i.bytes))=some (some (Zi .u8 0),1,1):=by kernel_rfl
def bc (base:Nat) (row:Value) (n:Nat) (l:List UInt8) (w:World):Prop:=l.length=n/\w.ownsRow base 5 1 row n (al l)/\base<=w.heap.size
theorem bc.nil (w:World):bc w.heap.size (Zs none 0 0) 0 [] w:=⟨rfl,World.ownsRow_nil _ _ _ _,Nat.le_refl _⟩
theorem bc.bel {base n:Nat} {row:Value} {l:List UInt8} {w w':World} (h:bc base row n l w) (hb:Below w.heap.size w w'):bc base row n l w':=⟨h.1,dG h.2.1 hb,Nat.le_trans h.2.2 hb.size⟩
def Gr (row:Value) (w:World) (row':Value) (w':World):Prop:=w.grownBy w' row.ownBlock/\(row'.ownBlock=row.ownBlock∨∃ k,row'.ownBlock=some k/\w.heap.size<=k)
theorem Gr.refl (row:Value) (w:World):Gr row w row w:=⟨World.grownBy.refl w _,.inl rfl⟩
theorem Gr.trans {a b c:Value} {w w1 w2:World} (h:Gr a w b w1) (k:Gr b w1 c w2):Gr a w c w2:=by
 obtain ⟨h1,h2⟩:=h;obtain ⟨k1,k2⟩:=k;refine ⟨⟨k1.os.trans h1.os,k1.tape.trans h1.tape,k1.output.trans h1.output,Nat.le_trans h1.size k1.size,λ i hi hne=>(k1.block i (Nat.lt_of_lt_of_le hi h1.size) ?_).trans (h1.block i hi hne)⟩,?_⟩
 ·rcases h2 with h2 | ⟨q,h2,h3⟩
  ·rw [h2];exact hne
  ·rw [h2];intro e;injection e with e;omega
 ·rcases k2 with k2 | ⟨q,k2,k3⟩
  ·rcases h2 with h2 | ⟨q',h2,h3⟩
   ·exact .inl (k2.trans h2)
   ·exact .inr ⟨q',k2.trans h2,h3⟩
  ·exact .inr ⟨q,k2,Nat.le_trans h1.size k3⟩
theorem Gr.bel {row:Value} {w w':World} (h:Below w.heap.size w w'):Gr row w row w':=⟨gC h _,.inl rfl⟩
theorem Gr.size {a b:Value} {w w':World} (h:Gr a w b w'):w.heap.size<=w'.heap.size:=h.1.size
theorem Gr.keepF {a b:Value} {w w':World} {F:Nat->Prop} (h:Gr a w b w') (hF:∀ k,F k->some k≠a.ownBlock):af F w w':=⟨h.1.size,λ k hf hk=>h.1.block k hk (hF k hf)⟩
theorem Gr.blk {a b:Value} {w w':World} {g:Nat} {t:TypeId} {cs:Array Value} (h:Gr a w b w') (hb:Blk w g t cs) (hg:some g≠a.ownBlock):Blk w' g t cs:=(h.1.block g hb.lt hg).trans hb
theorem Gr.below {a b:Value} {w w':World} {base:Nat} (h:Gr a w b w') (hb:base<=w.heap.size) (ho:∀ k,a.ownBlock=some k->base<=k):Below base w w':=(Below.refl base w).grown h.1 hb ho
theorem bc.post {base n M:Nat} {row row2:Value} {l m:List UInt8} {w w6:World} {o:Obj} (h:bc base row n l w) (hown:w6.ownsRow base 5 1 row2 (n+M) (al l++al m)) (hM:m.length=M) (hgr:(w.alloc o).grownBy w6 row.ownBlock) (hob:row2.ownBlock=row.ownBlock∨row2.ownBlock=some (w.alloc o).heap.size):bc base row2 (n+M) (l++m) w6/\Gr row w row2 w6:=by
 have hg:Gr row w row2 w6:=(Gr.bel ((Below.refl _ w).alloc (Nat.le_refl _) o)).trans ⟨hgr,hob.imp id λ e=>⟨_,e,Nat.le_refl _⟩⟩;exact ⟨⟨by rw [List.length_append,h.1,hM],by rw [dW];exact hown,Nat.le_trans h.2.2 hg.size⟩,hg⟩
def fo (base:Nat) (m:List UInt8) (row:Value) (w:World) (e:Ending) (w':World):Prop:=∃ row' n',e=.returned row'/\bc base row' n' m w'/\Gr row w row' w'
def b9 (s:List UInt8):List UInt8:=s.flatMap λ c=>if c=0 then [0,255] else [c]
theorem nP (s:List UInt8):(b9 s).length<=2*s.length:=by
 induction s with
 | nil=>simp [b9]
 |cons c r ih =>
  unfold b9 at ih ⊢;rw [List.flatMap_cons,List.length_append,List.length_cons];split
  ·show 2+_<=_;omega
  ·show 1+_<=_;omega
theorem g9 (s:List UInt8):bL s=5::(b9 s++[0,0]):=rfl
theorem om (row:Value) (base n:Nat) (l s:List UInt8) (w:World) (h:bc base row n l w) (hn:n<=100000000000) (hs:s.length<=4194304) :
  Calls Tryz.prog 102 #[row,Zt ⟨s.toArray⟩] w (fo base (l++bL s) row w):=by
 obtain ⟨i0,hi,hz0,hz1,hz2⟩:=info_parts bT;have HI:=aW hi;have HO:=aW h;obtain ⟨ns,hns⟩:∃ q,s.length=q:=⟨_,rfl⟩
 have hsz:(ByteArray.mk s.toArray).size=ns:=by rw [← hns];simp [ByteArray.size]
 have HIX:=aW (λ (i:Nat) (a:UInt8) (ha:s[i]? = some a) W=>j3 ha W);have HN:=aW hns;obtain ⟨S,hS⟩:∃ S:ByteArray,⟨s.toArray⟩=S:=⟨_,rfl⟩
 rw [hS] at HIX hsz ⊢;rw [hns] at hs;have HFIN:=aW (λ (r:Value) (m:Nat) (w':World) (ho:bc base r m (l++5::(b9 s++[0,0])) w') (hb:Gr row w r w')=>show fo base (l++bL s) row w (.returned r) w' from ⟨r,m,rfl,ho,hb⟩);clear hi h hns hS;go_enter Tryz.func102,Tryz.ntmps102;have HA2:=aW (HO.out.2.1.alloc (.cells #[Zi .u8 5] 5));have HR2:=aW (Rd.of_blk (Blk.new w 5 #[Zi .u8 5]));have HB2:=aW (show base<=(w.alloc (.cells #[Zi .u8 5] 5)).heap.size by have:=HO.out.2.2;simp;omega);go_wp2_with (at_builtin;refine ag _ rfl _ _ 76 rfl base 5 i0 _ 1 1 Tryz.underlying76 HI.out hz0 hz1 hz2 rfl (by decide) row n (al l) rfl HA2.out (some ⟨w.heap.size,0,none⟩) 1 1 (λ h=>by cases h) [Zi .u8 5] rfl rfl HR2.out (aC [5]) (by unfold maxLen;omega) (by omega) HB2.out ?_;intro row2 w2 hown2 hgr2 hob2);have H2P:=aW (HO.out.post (m:=[5]) (M:=1) hown2 rfl hgr2 hob2);clear hown2 hgr2 hob2;go_loopg [0,11] ns (λ gk s0 s11 wr => ∃ (i m:Nat) (r:Value),r=s0/\i<=ns/\m<=n+1+2*i/\gk=ns-i/\s11=Zi Zq (i:Int)/\Hid (bc base r m (l++5::b9 (s.take i)) wr)/\Hid (Gr row w r wr))
 case atStart=>exact ⟨0,n+1,_,rfl,Nat.zero_le _,by omega,by go_num,rfl,aW H2P.out.1,aW H2P.out.2⟩
 case round =>
  obtain ⟨i,m,r,rfl,hin,hm,hgk,rfl,HOW,HBW⟩:=hrel;have HG:=aW hgk;clear hgk H2P HA2 HR2 HB2 HO;by_cases hlt:i<ns
  ·obtain ⟨c,hc⟩:∃ c,s[i]? = some c:=⟨_,List.getElem?_eq_getElem (by rw [HN.out];exact hlt)⟩
   have hix:=λ W=>HIX.out i c hc W
   have HTK:=aW (show b9 (s.take (i+1))=b9 (s.take i)++(if c=0 then [0,255] else [c]) by rw [List.take_add_one,hc];unfold b9;simp);obtain ⟨cn,hcn⟩:∃ q,c.toNat=q:=⟨_,rfl⟩
   have HCN:=aW hcn;rw [hcn] at hix;clear hc hcn;have HA3:=aW (HOW.out.2.1.alloc (.cells #[Zi .u8 (cn:Int)] 5));have HR3:=aW (Rd.of_blk (Blk.new wr 5 #[Zi .u8 (cn:Int)]));have HB3:=aW (show base<=(wr.alloc (.cells #[Zi .u8 (cn:Int)] 5)).heap.size by have:=HOW.out.2.2;simp;omega);by_cases h0:cn=0
   ·have hc0:c=0:=by rw [← UInt8.toNat_inj,HCN.out,h0];rfl
    subst h0;go_upto_region 6 with (at_builtin;refine ag _ rfl _ _ 76 rfl base 5 i0 _ 1 1 Tryz.underlying76 HI.out hz0 hz1 hz2 rfl (by decide) r m (al (l++5::b9 (s.take i))) rfl HA3.out (some ⟨wr.heap.size,0,none⟩) 1 1 (λ h=>by cases h) [Zi .u8 ((0:Nat):Int)] rfl rfl HR3.out (aC [0]) (by unfold maxLen;omega) (by omega) HB3.out ?_;intro row3 w3 hown3 hgr3 hob3);have H3P:=aW (HOW.out.post (m:=[0]) (M:=1) hown3 rfl hgr3 hob3);clear hown3 hgr3 hob3 HA3 HR3 HB3;have HO3:=aW H3P.out.1;have HA4:=aW (HO3.out.2.1.alloc (.cells #[Zi .u8 255] 5));have HR4:=aW (Rd.of_blk (Blk.new w3 5 #[Zi .u8 255]));have HB4:=aW (show base<=(w3.alloc (.cells #[Zi .u8 255] 5)).heap.size by have:=HO3.out.2.2;simp;omega);go_wp2_with (at_builtin;refine ag _ rfl _ _ 76 rfl base 5 i0 _ 1 1 Tryz.underlying76 HI.out hz0 hz1 hz2 rfl (by decide) row3 (m+1) (al (l++5::b9 (s.take i)++[0])) rfl HA4.out (some ⟨w3.heap.size,0,none⟩) 1 1 (λ h=>by cases h) [Zi .u8 255] rfl rfl HR4.out (aC [255]) (by unfold maxLen;omega) (by omega) HB4.out ?_;intro row4 w4 hown4 hgr4 hob4);have H4P:=aW (HO3.out.post (m:=[255]) (M:=1) hown4 rfl hgr4 hob4);clear hown4 hgr4 hob4;have HL:=aW (show l++5::b9 (s.take i)++[0]++[255]=l++5::b9 (s.take (i+1)) by rw [HTK.out,if_pos hc0];simp);go_roundg (ns-(i+1))
    case measure=>rw [HG.out];omega
    case rel=>exact ⟨i+1,m+1+1,_,rfl,by omega,by omega,rfl,by go_num,aW (by rw [← HL.out];exact H4P.out.1),aW ((HBW.out.trans H3P.out.2).trans H4P.out.2)⟩
   ·have hc0:¬ c=0:=λ e=>h0 (by rw [← HCN.out,e];rfl)
    have h0b:((cn:Int) == 0)=false:=by rw [beq_eq_false_iff_ne];omega
    have hcc:al [c]=[Zi .u8 (cn:Int)]:=by show [Value.int .u8 ((c.toNat:Nat):Int)]=_;rw [HCN.out]
    have HCC:=aW hcc;clear hcc;go_upto_region 6 with (at_builtin;refine ag _ rfl _ _ 76 rfl base 5 i0 _ 1 1 Tryz.underlying76 HI.out hz0 hz1 hz2 rfl (by decide) r m (al (l++5::b9 (s.take i))) rfl HA3.out (some ⟨wr.heap.size,0,none⟩) 1 1 (λ h=>by cases h) [Zi .u8 (cn:Int)] rfl rfl HR3.out (by rw [← HCC.out];exact aC [c]) (by unfold maxLen;omega) (by omega) HB3.out ?_;intro row3 w3 hown3 hgr3 hob3);have H3P:=aW (HOW.out.post (m:=[c]) (M:=1) (by rw [HCC.out];exact hown3) rfl hgr3 hob3);clear hown3 hgr3 hob3 HA3 HR3 HB3;have HL:=aW (show l++5::b9 (s.take i)++[c]=l++5::b9 (s.take (i+1)) by rw [HTK.out,if_neg hc0];simp);go_wp2;go_roundg (ns-(i+1))
    case measure=>rw [HG.out];omega
    case rel=>exact ⟨i+1,m+1,_,rfl,by omega,by omega,rfl,by go_num,aW (by rw [← HL.out];exact H3P.out.1),aW (HBW.out.trans H3P.out.2)⟩
  ·obtain rfl:i=ns:=by omega
   have hl:l++5::b9 (s.take i)=l++5::b9 s:=by rw [List.take_of_length_le (Nat.le_of_eq HN.out)]
   rw [hl] at HOW;clear hl;have HA5:=aW (HOW.out.2.1.alloc (.cells #[Zi .u8 0,Zi .u8 0] 5));have HR5:=aW (Rd.of_blk (Blk.new wr 5 #[Zi .u8 0,Zi .u8 0]));have HB5:=aW (show base<=(wr.alloc (.cells #[Zi .u8 0,Zi .u8 0] 5)).heap.size by have:=HOW.out.2.2;simp;omega);go_wp2_with (at_builtin;refine ag _ rfl _ _ 76 rfl base 5 i0 _ 1 1 Tryz.underlying76 HI.out hz0 hz1 hz2 rfl (by decide) r m (al (l++5::b9 s)) rfl HA5.out (some ⟨wr.heap.size,0,none⟩) 2 2 (λ h=>by cases h) [Zi .u8 0,Zi .u8 0] rfl rfl HR5.out (aC [0,0]) (by unfold maxLen;omega) (by omega) HB5.out ?_;intro row3 w3 hown3 hgr3 hob3);have H3P:=aW (HOW.out.post (m:=[0,0]) (M:=2) hown3 rfl hgr3 hob3);clear hown3 hgr3 hob3;have HX:=aW (HFIN.out _ _ _ (by have:=H3P.out.1;simpa using this) (HBW.out.trans H3P.out.2));go_ret;exact HX.out
theorem eu {m d:Nat} {E:Int} (h:E=((m / d % 256:Nat):Int)):[Value.int .u8 E]=al [UInt8.ofNat (m / d)]:=by
 subst h;show [Value.int .u8 ((m / d % 256:Nat):Int)]=[Value.int .u8 (((UInt8.ofNat (m / d)).toNat:Nat):Int)]
 rw [UInt8.toNat_ofNat']
theorem cm {m j by_:Nat} (h:([56,48,40,32,24,16,8,0]:List Nat)[j]? = some by_):dK m (j+1)=dK m j++[UInt8.ofNat (m / 2 ^ by_)]:=by
 unfold dK;rw [List.take_add_one,h,List.map_append];rfl
theorem wg (row:Value) (base n:Nat) (l:List UInt8) (w:World) (v:Int) (t:List UInt8) (A B:Option Addr) (nk ca ny cb:Nat) (h:bc base row n l w) (hn:n<=100000000000) (hv:iw v) :
  Calls Tryz.prog 65 #[row,.agg #[Zi Zq 3,Zi Zq v,Zt ⟨t.toArray⟩,Zs A nk ca,Zs B ny cb]] w (fo base (l++iS v) row w):=by
 obtain ⟨i0,hi,hz0,hz1,hz2⟩:=info_parts bT;have HI:=aW hi;have HH0:=aW ((aj.nil w).push 25 #[Zi Zq 3,Zi Zq v,Zt ⟨t.toArray⟩,Zs A nk ca,Zs B ny cb] (g:=w.heap.size) rfl);have HO:=aW (h.bel HH0.out.1);obtain ⟨W0,hW0⟩:∃ W0,w.alloc (.cells #[Zi Zq 3,Zi Zq v,Zt ⟨t.toArray⟩,Zs A nk ca,Zs B ny cb] 25)=W0:=⟨_,rfl⟩
 rw [hW0] at HH0 HO;have HW0:=aW hW0;clear hi h hW0;have HA2:=aW (HO.out.2.1.alloc (.cells #[Zi .u8 4] 5));have HR2:=aW (Rd.of_blk (Blk.new W0 5 #[Zi .u8 4]));have HB2:=aW (show base<=(W0.alloc (.cells #[Zi .u8 4] 5)).heap.size by have:=HO.out.2.2;simp;omega);go_enter Tryz.func65,Tryz.ntmps65;go_upto_region 10 with fail;rw [HW0.out];go_upto_region 11 with (at_builtin;refine ag _ rfl _ _ 76 rfl base 5 i0 _ 1 1 Tryz.underlying76 HI.out hz0 hz1 hz2 rfl (by decide) row n (al l) rfl HA2.out (some ⟨W0.heap.size,0,none⟩) 1 1 (λ h=>by cases h) [Zi .u8 4] rfl rfl HR2.out (aC [4]) (by unfold maxLen;omega) (by omega) HB2.out ?_;intro row2 w2 hown2 hgr2 hob2);rw [tO hv];obtain ⟨m,hm⟩:∃ m,(v+9223372036854775808).toNat=m:=⟨_,rfl⟩
 have hm64:m<18446744073709551616:=by unfold iw at hv;omega
 rw [hm];have H2P:=aW (HO.out.post (m:=[4]) (M:=1) hown2 rfl hgr2 hob2);have HFIN:=aW (λ (r:Value) (k:Nat) (w':World) (ho:bc base r k (l++4::dK m 8) w') (hb:Gr row W0 r w')=>show fo base (l++iS v) row w (.returned r) w' from ⟨r,k,rfl,by rw [mj,hm];exact ho,(Gr.bel HH0.out.1).trans hb⟩);clear hown2 hgr2 hob2 hm HA2 HR2 HB2 hv;go_wp2;go_loopg [0,6] 8 (λ gk s0 s6 wr => ∃ (j:Nat) (b:Int) (r:Value),r=s0/\j<=8/\gk=8-j/\s6=Zi Zq b/\b=56-8*j/\Hid (bc base r (n+1+j) (l++4::dK m j) wr)/\Hid (Gr row W0 r wr))
 case atStart=>exact ⟨0,56,_,rfl,by omega,by go_num,rfl,by omega,aW (by simpa [dK] using H2P.out.1),aW H2P.out.2⟩
 case round =>
  obtain ⟨j,b,r,rfl,hj,hgk,rfl,hb,HOW,HBW⟩:=hrel;have HG:=aW hgk;clear hgk H2P;have HA:=aW (λ (x:Int)=>HOW.out.2.1.alloc (.cells #[Zi .u8 x] 5));have HR:=aW (λ (x:Int)=>Rd.of_blk (Blk.new wr 5 #[Zi .u8 x]));have HB:=aW (λ (x:Int)=>show base<=(wr.alloc (.cells #[Zi .u8 x] 5)).heap.size by have:=HOW.out.2.2;simp;omega);rcases (by omega:j=0∨j=1∨j=2∨j=3∨j=4∨j=5∨j=6∨j=7∨j=8) with rfl | rfl | rfl | rfl | rfl | rfl | rfl | rfl | rfl
  ·obtain rfl:b=56:=by omega
   have HST:=aW (cm (m:=m) (j:=0) (by_:=56) rfl);clear hb hj;go_upto_region 13 with (at_builtin;refine ag _ rfl _ _ 76 rfl base 5 i0 _ 1 1 Tryz.underlying76 HI.out hz0 hz1 hz2 rfl (by decide) r (n+1+0) (al (l++4::dK m 0)) rfl (HA.out _) (some ⟨wr.heap.size,0,none⟩) 1 1 (λ h=>by cases h) [Zi .u8 _] rfl rfl (HR.out _) (by intro u hu;obtain rfl:=List.mem_singleton.1 hu;rfl) (by unfold maxLen;omega) (by omega) (HB.out _) ?_;intro row3 w3 hown3 hgr3 hob3);rw [eu (m:=m) (d:=72057594037927936) ?_] at hown3;rotate_left
   ·omega
   have H3P:=aW (HOW.out.post (m:=[UInt8.ofNat (m / 72057594037927936)]) (M:=1) hown3 rfl hgr3 hob3);clear hown3 hgr3 hob3;go_wp2;go_roundg (8-(0+1))
   case measure=>rw [HG.out];omega
   case rel=>exact ⟨1,48,_,rfl,by omega,by first | rfl | omega,by go_num,by omega,aW (by rw [HST.out,← List.cons_append,← List.append_assoc];exact H3P.out.1),aW (HBW.out.trans H3P.out.2)⟩
  ·obtain rfl:b=48:=by omega
   have HST:=aW (cm (m:=m) (j:=1) (by_:=48) rfl);clear hb hj;go_upto_region 13 with (at_builtin;refine ag _ rfl _ _ 76 rfl base 5 i0 _ 1 1 Tryz.underlying76 HI.out hz0 hz1 hz2 rfl (by decide) r (n+1+1) (al (l++4::dK m 1)) rfl (HA.out _) (some ⟨wr.heap.size,0,none⟩) 1 1 (λ h=>by cases h) [Zi .u8 _] rfl rfl (HR.out _) (by intro u hu;obtain rfl:=List.mem_singleton.1 hu;rfl) (by unfold maxLen;omega) (by omega) (HB.out _) ?_;intro row3 w3 hown3 hgr3 hob3);rw [eu (m:=m) (d:=281474976710656) ?_] at hown3;rotate_left
   ·omega
   have H3P:=aW (HOW.out.post (m:=[UInt8.ofNat (m / 281474976710656)]) (M:=1) hown3 rfl hgr3 hob3);clear hown3 hgr3 hob3;go_wp2;go_roundg (8-(1+1))
   case measure=>rw [HG.out];omega
   case rel=>exact ⟨2,40,_,rfl,by omega,by first | rfl | omega,by go_num,by omega,aW (by rw [HST.out,← List.cons_append,← List.append_assoc];exact H3P.out.1),aW (HBW.out.trans H3P.out.2)⟩
  ·obtain rfl:b=40:=by omega
   have HST:=aW (cm (m:=m) (j:=2) (by_:=40) rfl);clear hb hj;go_upto_region 13 with (at_builtin;refine ag _ rfl _ _ 76 rfl base 5 i0 _ 1 1 Tryz.underlying76 HI.out hz0 hz1 hz2 rfl (by decide) r (n+1+2) (al (l++4::dK m 2)) rfl (HA.out _) (some ⟨wr.heap.size,0,none⟩) 1 1 (λ h=>by cases h) [Zi .u8 _] rfl rfl (HR.out _) (by intro u hu;obtain rfl:=List.mem_singleton.1 hu;rfl) (by unfold maxLen;omega) (by omega) (HB.out _) ?_;intro row3 w3 hown3 hgr3 hob3);rw [eu (m:=m) (d:=1099511627776) ?_] at hown3;rotate_left
   ·omega
   have H3P:=aW (HOW.out.post (m:=[UInt8.ofNat (m / 1099511627776)]) (M:=1) hown3 rfl hgr3 hob3);clear hown3 hgr3 hob3;go_wp2;go_roundg (8-(2+1))
   case measure=>rw [HG.out];omega
   case rel=>exact ⟨3,32,_,rfl,by omega,by first | rfl | omega,by go_num,by omega,aW (by rw [HST.out,← List.cons_append,← List.append_assoc];exact H3P.out.1),aW (HBW.out.trans H3P.out.2)⟩
  ·obtain rfl:b=32:=by omega
   have HST:=aW (cm (m:=m) (j:=3) (by_:=32) rfl);clear hb hj;go_upto_region 13 with (at_builtin;refine ag _ rfl _ _ 76 rfl base 5 i0 _ 1 1 Tryz.underlying76 HI.out hz0 hz1 hz2 rfl (by decide) r (n+1+3) (al (l++4::dK m 3)) rfl (HA.out _) (some ⟨wr.heap.size,0,none⟩) 1 1 (λ h=>by cases h) [Zi .u8 _] rfl rfl (HR.out _) (by intro u hu;obtain rfl:=List.mem_singleton.1 hu;rfl) (by unfold maxLen;omega) (by omega) (HB.out _) ?_;intro row3 w3 hown3 hgr3 hob3);rw [eu (m:=m) (d:=4294967296) ?_] at hown3;rotate_left
   ·omega
   have H3P:=aW (HOW.out.post (m:=[UInt8.ofNat (m / 4294967296)]) (M:=1) hown3 rfl hgr3 hob3);clear hown3 hgr3 hob3;go_wp2;go_roundg (8-(3+1))
   case measure=>rw [HG.out];omega
   case rel=>exact ⟨4,24,_,rfl,by omega,by first | rfl | omega,by go_num,by omega,aW (by rw [HST.out,← List.cons_append,← List.append_assoc];exact H3P.out.1),aW (HBW.out.trans H3P.out.2)⟩
  ·obtain rfl:b=24:=by omega
   have HST:=aW (cm (m:=m) (j:=4) (by_:=24) rfl);clear hb hj;go_upto_region 13 with (at_builtin;refine ag _ rfl _ _ 76 rfl base 5 i0 _ 1 1 Tryz.underlying76 HI.out hz0 hz1 hz2 rfl (by decide) r (n+1+4) (al (l++4::dK m 4)) rfl (HA.out _) (some ⟨wr.heap.size,0,none⟩) 1 1 (λ h=>by cases h) [Zi .u8 _] rfl rfl (HR.out _) (by intro u hu;obtain rfl:=List.mem_singleton.1 hu;rfl) (by unfold maxLen;omega) (by omega) (HB.out _) ?_;intro row3 w3 hown3 hgr3 hob3);rw [eu (m:=m) (d:=16777216) ?_] at hown3;rotate_left
   ·omega
   have H3P:=aW (HOW.out.post (m:=[UInt8.ofNat (m / 16777216)]) (M:=1) hown3 rfl hgr3 hob3);clear hown3 hgr3 hob3;go_wp2;go_roundg (8-(4+1))
   case measure=>rw [HG.out];omega
   case rel=>exact ⟨5,16,_,rfl,by omega,by first | rfl | omega,by go_num,by omega,aW (by rw [HST.out,← List.cons_append,← List.append_assoc];exact H3P.out.1),aW (HBW.out.trans H3P.out.2)⟩
  ·obtain rfl:b=16:=by omega
   have HST:=aW (cm (m:=m) (j:=5) (by_:=16) rfl);clear hb hj;go_upto_region 13 with (at_builtin;refine ag _ rfl _ _ 76 rfl base 5 i0 _ 1 1 Tryz.underlying76 HI.out hz0 hz1 hz2 rfl (by decide) r (n+1+5) (al (l++4::dK m 5)) rfl (HA.out _) (some ⟨wr.heap.size,0,none⟩) 1 1 (λ h=>by cases h) [Zi .u8 _] rfl rfl (HR.out _) (by intro u hu;obtain rfl:=List.mem_singleton.1 hu;rfl) (by unfold maxLen;omega) (by omega) (HB.out _) ?_;intro row3 w3 hown3 hgr3 hob3);rw [eu (m:=m) (d:=65536) ?_] at hown3;rotate_left
   ·omega
   have H3P:=aW (HOW.out.post (m:=[UInt8.ofNat (m / 65536)]) (M:=1) hown3 rfl hgr3 hob3);clear hown3 hgr3 hob3;go_wp2;go_roundg (8-(5+1))
   case measure=>rw [HG.out];omega
   case rel=>exact ⟨6,8,_,rfl,by omega,by first | rfl | omega,by go_num,by omega,aW (by rw [HST.out,← List.cons_append,← List.append_assoc];exact H3P.out.1),aW (HBW.out.trans H3P.out.2)⟩
  ·obtain rfl:b=8:=by omega
   have HST:=aW (cm (m:=m) (j:=6) (by_:=8) rfl);clear hb hj;go_upto_region 13 with (at_builtin;refine ag _ rfl _ _ 76 rfl base 5 i0 _ 1 1 Tryz.underlying76 HI.out hz0 hz1 hz2 rfl (by decide) r (n+1+6) (al (l++4::dK m 6)) rfl (HA.out _) (some ⟨wr.heap.size,0,none⟩) 1 1 (λ h=>by cases h) [Zi .u8 _] rfl rfl (HR.out _) (by intro u hu;obtain rfl:=List.mem_singleton.1 hu;rfl) (by unfold maxLen;omega) (by omega) (HB.out _) ?_;intro row3 w3 hown3 hgr3 hob3);rw [eu (m:=m) (d:=256) ?_] at hown3;rotate_left
   ·omega
   have H3P:=aW (HOW.out.post (m:=[UInt8.ofNat (m / 256)]) (M:=1) hown3 rfl hgr3 hob3);clear hown3 hgr3 hob3;go_wp2;go_roundg (8-(6+1))
   case measure=>rw [HG.out];omega
   case rel=>exact ⟨7,0,_,rfl,by omega,by first | rfl | omega,by go_num,by omega,aW (by rw [HST.out,← List.cons_append,← List.append_assoc];exact H3P.out.1),aW (HBW.out.trans H3P.out.2)⟩
  ·obtain rfl:b=0:=by omega
   have HST:=aW (cm (m:=m) (j:=7) (by_:=0) rfl);clear hb hj;go_upto_region 13 with (at_builtin;refine ag _ rfl _ _ 76 rfl base 5 i0 _ 1 1 Tryz.underlying76 HI.out hz0 hz1 hz2 rfl (by decide) r (n+1+7) (al (l++4::dK m 7)) rfl (HA.out _) (some ⟨wr.heap.size,0,none⟩) 1 1 (λ h=>by cases h) [Zi .u8 _] rfl rfl (HR.out _) (by intro u hu;obtain rfl:=List.mem_singleton.1 hu;rfl) (by unfold maxLen;omega) (by omega) (HB.out _) ?_;intro row3 w3 hown3 hgr3 hob3);rw [eu (m:=m) (d:=1) ?_] at hown3;rotate_left
   ·omega
   have H3P:=aW (HOW.out.post (m:=[UInt8.ofNat (m / 1)]) (M:=1) hown3 rfl hgr3 hob3);clear hown3 hgr3 hob3;go_wp2;go_roundg (8-(7+1))
   case measure=>rw [HG.out];omega
   case rel=>exact ⟨8,-8,_,rfl,by omega,by first | rfl | omega,by go_num,by omega,aW (by rw [HST.out,← List.cons_append,← List.append_assoc];exact H3P.out.1),aW (HBW.out.trans H3P.out.2)⟩
  ·obtain rfl:b = -8:=by omega
   go_wp2;go_ret;exact HFIN.out _ _ _ HOW.out HBW.out
theorem fd {W:World} {F:Nat->Prop} {css:List (List Value)} {xs:List JV} {A:Option Addr} (h:VRs W F css xs) (hr:RdF W F A css.flatten) {i:Nat} {x:JV} (hx:xs[i]? = some x) :
  ∃ (b o:Nat) (k n:Int) (s:ByteArray) (A':Option Addr) (na ca:Nat) (B':Option Addr) (nb cb:Nat),A=some ⟨b,o,none⟩/\b<W.heap.size/\F b/\VR W F [Zi Zq k,Zi Zq n,Zt s,Zs A' na ca,Zs B' nb cb] x /\
   ∀ W',af F W W'->W'.cell? ⟨b,o+i*5,none⟩=some (Zi Zq k)/\W'.cell? ⟨b,o+i*5+1,none⟩=some (Zi Zq n)/\W'.cell? ⟨b,o+i*5+2,none⟩=some (Zt s)/\W'.cell? ⟨b,o+i*5+3,none⟩=some (Zs A' na ca)/\W'.cell? ⟨b,o+i*5+4,none⟩=some (Zs B' nb cb):=by
 obtain ⟨b,o,c,rfl,hb,hf,hv,hc⟩:=h.cell hr hx;obtain ⟨k,n,s,A',na,ca,B',nb,cb,rfl⟩:=hv.form;refine ⟨b,o,k,n,s,A',na,ca,B',nb,cb,rfl,hb,hf,hv,λ W' hW=>?_⟩;have z:=λ (j:Nat) u (hj:j<5) hu=>(World.cell?_of_block (w:=W) (a:=⟨b,o+(i*5+j),none⟩) (hW.2 b hf hb)).trans (hc j u hj hu)
 exact ⟨z 0 _ (by decide) rfl,z 1 _ (by decide) rfl,z 2 _ (by decide) rfl,z 3 _ (by decide) rfl,z 4 _ (by decide) rfl⟩
theorem eO (o:Bool) (ks:List (List UInt8)):aE o [] ks=[]:=by rw [aE]
theorem dB (o:Bool):∀ (i:Nat) (kids:List JV) (keys:List (List UInt8)) (x:JV),kids[i]? = some x ->
  aE o (kids.take (i+1)) keys=aE o (kids.take i) keys++((if o=true then bL (keys.getD i []) else [])++aJ x)
 |0,y::r,keys,x,h=>by
  obtain rfl:y=x:=by simpa using h
  rw [List.take_succ_cons,List.take_zero,List.take_zero,aE,aE,aE,List.append_nil];cases keys<;>rfl
 |i+1,y::r,keys,x,h=>by
  have h':r[i]? = some x:=by simpa using h
  rw [List.take_succ_cons,List.take_succ_cons,aE,aE,dB o i r keys.tail x h'];have e:keys.tail.getD i []=keys.getD (i+1) []:=by cases keys<;>rfl
  rw [e];simp only [List.append_assoc]
theorem gF (o:Bool) (kids:List JV) (keys:List (List UInt8)):∀ i,i<=kids.length->(aE o (kids.take i) keys).length<=(aE o kids keys).length:=by
 have key:∀ d i,i+d=kids.length->(aE o (kids.take i) keys).length<=(aE o kids keys).length:=by
  intro d
  induction d with
  | zero=>intro i h;rw [List.take_of_length_le (by omega)];exact Nat.le_refl _
  |succ d ih =>
   intro i h;have h1:=ih (i+1) (by omega);rw [dB o i kids keys kids[i] (List.getElem?_eq_getElem (by omega)),List.length_append] at h1;omega
 exact λ i h=>key (kids.length-i) i (by omega)
mutual
theorem io:∀ v:JV,(aJ v).length+3<=13*cr v
 | .mk k n s kids keys=>by
  have h1:=ix true kids keys;have h2:=ix false kids keys;have h3:=nP s;unfold aJ cr;split
  ·simp;omega
  split
  ·simp;omega
  split
  ·rw [mj,List.length_cons];unfold dK;rw [List.length_map,List.length_take];simp;omega
  split
  ·rw [g9,List.length_cons,List.length_append];simp;omega
  split
  ·rw [List.length_cons,List.length_append];simp;omega
  ·rw [List.length_cons,List.length_append];simp;omega
theorem ix:∀ (o:Bool) (kids:List JV) (keys:List (List UInt8)),(aE o kids keys).length<=13*cJ kids+2*bN keys
 | o,[],keys=>by rw [eO];simp
 |o,x::r,keys=>by
  have h1:=io x;have h2:=ix o r keys.tail;rw [aE,List.length_append,List.length_append];have e1:cJ (x::r)=cr x+cJ r:=by rw [cJ]
  have h4:(if o=true then bL (keys.headD []) else []).length+2*bN keys.tail<=2*bN keys+3:=by
   cases keys with
   |nil =>
    show (if o=true then bL [] else []).length+2*bN []<=_
    split<;>simp [bN,g9,b9]
   |cons k ks =>
    have h5:=nP k;show (if o=true then bL k else []).length+2*bN ks<=_
    have e2:bN (k::ks)=k.length+1+bN ks:=by rw [bN]
    rw [e2];split
    ·rw [g9,List.length_cons,List.length_append];simp;omega
    ·simp;omega
  have h6:=lH x;rw [e1];omega
end
theorem wk (row:Value) (base n:Nat) (l:List UInt8) (w:World) (v:Int) (t:List UInt8) (A B:Option Addr) (nk ca ny cb:Nat) (h:bc base row n l w) (hn:n<=100000000000):Calls Tryz.prog 65 #[row,.agg #[Zi Zq 1,Zi Zq v,Zt ⟨t.toArray⟩,Zs A nk ca,Zs B ny cb]] w (fo base (l++[1]) row w):=by
 obtain ⟨i0,hi,hz0,hz1,hz2⟩:=info_parts bT;have HI:=aW hi;have HH0:=aW ((aj.nil w).push 25 #[Zi Zq 1,Zi Zq v,Zt ⟨t.toArray⟩,Zs A nk ca,Zs B ny cb] (g:=w.heap.size) rfl);have HO:=aW (h.bel HH0.out.1);obtain ⟨W0,hW0⟩:∃ W0,w.alloc (.cells #[Zi Zq 1,Zi Zq v,Zt ⟨t.toArray⟩,Zs A nk ca,Zs B ny cb] 25)=W0:=⟨_,rfl⟩
 rw [hW0] at HH0 HO;have HW0:=aW hW0;have HFIN:=aW (λ (r:Value) (k:Nat) (w':World) (ho:bc base r k (l++[1]) w') (hb:Gr row W0 r w')=>show fo base (l++[1]) row w (.returned r) w' from ⟨r,k,rfl,ho,(Gr.bel HH0.out.1).trans hb⟩);clear hi h hW0;go_enter Tryz.func65,Tryz.ntmps65;go_upto_region 7 with fail;rw [HW0.out];have HA2:=aW (HO.out.2.1.alloc (.cells #[Zi .u8 1] 5));have HR2:=aW (Rd.of_blk (Blk.new W0 5 #[Zi .u8 1]));have HB2:=aW (show base<=(W0.alloc (.cells #[Zi .u8 1] 5)).heap.size by have:=HO.out.2.2;simp;omega);go_wp2_with (at_builtin;refine ag _ rfl _ _ 76 rfl base 5 i0 _ 1 1 Tryz.underlying76 HI.out hz0 hz1 hz2 rfl (by decide) row n (al (l)) rfl HA2.out (some ⟨W0.heap.size,0,none⟩) 1 1 (λ h=>by cases h) [Zi .u8 1] rfl rfl HR2.out (aC [1]) (by unfold maxLen;omega) (by omega) HB2.out ?_;intro row2 w2 hown2 hgr2 hob2);have H2P:=aW (HO.out.post (m:=[1]) (M:=1) hown2 rfl hgr2 hob2);clear hown2 hgr2 hob2 HA2 HR2 HB2;go_ret;exact HFIN.out _ _ _ H2P.out.1 H2P.out.2
theorem ug (row:Value) (base n:Nat) (l:List UInt8) (w:World) (v:Int) (t:List UInt8) (A B:Option Addr) (nk ca ny cb:Nat) (h:bc base row n l w) (hn:n<=100000000000):Calls Tryz.prog 65 #[row,.agg #[Zi Zq 2,Zi Zq 0,Zt ⟨t.toArray⟩,Zs A nk ca,Zs B ny cb]] w (fo base (l++[2]) row w):=by
 obtain ⟨i0,hi,hz0,hz1,hz2⟩:=info_parts bT;have HI:=aW hi;have HH0:=aW ((aj.nil w).push 25 #[Zi Zq 2,Zi Zq 0,Zt ⟨t.toArray⟩,Zs A nk ca,Zs B ny cb] (g:=w.heap.size) rfl);have HO:=aW (h.bel HH0.out.1);obtain ⟨W0,hW0⟩:∃ W0,w.alloc (.cells #[Zi Zq 2,Zi Zq 0,Zt ⟨t.toArray⟩,Zs A nk ca,Zs B ny cb] 25)=W0:=⟨_,rfl⟩
 rw [hW0] at HH0 HO;have HW0:=aW hW0;have HFIN:=aW (λ (r:Value) (k:Nat) (w':World) (ho:bc base r k (l++[2]) w') (hb:Gr row W0 r w')=>show fo base (l++[2]) row w (.returned r) w' from ⟨r,k,rfl,ho,(Gr.bel HH0.out.1).trans hb⟩);clear hi h hW0;obtain ⟨c0,f0,l0⟩:=HH0.out.b0.rules;go_enter Tryz.func65,Tryz.ntmps65;go_upto_region 8 with fail;rw [HW0.out];have HA2:=aW (HO.out.2.1.alloc (.cells #[Zi .u8 2] 5));have HR2:=aW (Rd.of_blk (Blk.new W0 5 #[Zi .u8 2]));have HB2:=aW (show base<=(W0.alloc (.cells #[Zi .u8 2] 5)).heap.size by have:=HO.out.2.2;simp;omega);go_wp2_with (at_builtin;refine ag _ rfl _ _ 76 rfl base 5 i0 _ 1 1 Tryz.underlying76 HI.out hz0 hz1 hz2 rfl (by decide) row n (al (l)) rfl HA2.out (some ⟨W0.heap.size,0,none⟩) 1 1 (λ h=>by cases h) [Zi .u8 2] rfl rfl HR2.out (aC [2]) (by unfold maxLen;omega) (by omega) HB2.out ?_;intro row2 w2 hown2 hgr2 hob2);have H2P:=aW (HO.out.post (m:=[2]) (M:=1) hown2 rfl hgr2 hob2);clear hown2 hgr2 hob2 HA2 HR2 HB2;go_ret;exact HFIN.out _ _ _ H2P.out.1 H2P.out.2
theorem uo (row:Value) (base n:Nat) (l:List UInt8) (w:World) (v:Int) (t:List UInt8) (A B:Option Addr) (nk ca ny cb:Nat) (h:bc base row n l w) (hn:n<=100000000000):Calls Tryz.prog 65 #[row,.agg #[Zi Zq 2,Zi Zq 1,Zt ⟨t.toArray⟩,Zs A nk ca,Zs B ny cb]] w (fo base (l++[3]) row w):=by
 obtain ⟨i0,hi,hz0,hz1,hz2⟩:=info_parts bT;have HI:=aW hi;have HH0:=aW ((aj.nil w).push 25 #[Zi Zq 2,Zi Zq 1,Zt ⟨t.toArray⟩,Zs A nk ca,Zs B ny cb] (g:=w.heap.size) rfl);have HO:=aW (h.bel HH0.out.1);obtain ⟨W0,hW0⟩:∃ W0,w.alloc (.cells #[Zi Zq 2,Zi Zq 1,Zt ⟨t.toArray⟩,Zs A nk ca,Zs B ny cb] 25)=W0:=⟨_,rfl⟩
 rw [hW0] at HH0 HO;have HW0:=aW hW0;have HFIN:=aW (λ (r:Value) (k:Nat) (w':World) (ho:bc base r k (l++[3]) w') (hb:Gr row W0 r w')=>show fo base (l++[3]) row w (.returned r) w' from ⟨r,k,rfl,ho,(Gr.bel HH0.out.1).trans hb⟩);clear hi h hW0;obtain ⟨c0,f0,l0⟩:=HH0.out.b0.rules;go_enter Tryz.func65,Tryz.ntmps65;go_upto_region 8 with fail;rw [HW0.out];have HA2:=aW (HO.out.2.1.alloc (.cells #[Zi .u8 3] 5));have HR2:=aW (Rd.of_blk (Blk.new W0 5 #[Zi .u8 3]));have HB2:=aW (show base<=(W0.alloc (.cells #[Zi .u8 3] 5)).heap.size by have:=HO.out.2.2;simp;omega);go_wp2_with (at_builtin;refine ag _ rfl _ _ 76 rfl base 5 i0 _ 1 1 Tryz.underlying76 HI.out hz0 hz1 hz2 rfl (by decide) row n (al (l)) rfl HA2.out (some ⟨W0.heap.size,0,none⟩) 1 1 (λ h=>by cases h) [Zi .u8 3] rfl rfl HR2.out (aC [3]) (by unfold maxLen;omega) (by omega) HB2.out ?_;intro row2 w2 hown2 hgr2 hob2);have H2P:=aW (HO.out.post (m:=[3]) (M:=1) hown2 rfl hgr2 hob2);clear hown2 hgr2 hob2 HA2 HR2 HB2;go_ret;exact HFIN.out _ _ _ H2P.out.1 H2P.out.2
theorem vT (row:Value) (base n:Nat) (l:List UInt8) (w:World) (v:Int) (t:List UInt8) (A B:Option Addr) (nk ca ny cb:Nat) (h:bc base row n l w) (hn:n<=100000000000) (ht:t.length<=4194304):Calls Tryz.prog 65 #[row,.agg #[Zi Zq 4,Zi Zq v,Zt ⟨t.toArray⟩,Zs A nk ca,Zs B ny cb]] w (fo base (l++bL t) row w):=by
 obtain ⟨i0,hi,hz0,hz1,hz2⟩:=info_parts bT;have HI:=aW hi;have HH0:=aW ((aj.nil w).push 25 #[Zi Zq 4,Zi Zq v,Zt ⟨t.toArray⟩,Zs A nk ca,Zs B ny cb] (g:=w.heap.size) rfl);have HO:=aW (h.bel HH0.out.1);obtain ⟨W0,hW0⟩:∃ W0,w.alloc (.cells #[Zi Zq 4,Zi Zq v,Zt ⟨t.toArray⟩,Zs A nk ca,Zs B ny cb] 25)=W0:=⟨_,rfl⟩
 rw [hW0] at HH0 HO;have HW0:=aW hW0;have HFIN:=aW (λ (r:Value) (k:Nat) (w':World) (ho:bc base r k (l++bL t) w') (hb:Gr row W0 r w')=>show fo base (l++bL t) row w (.returned r) w' from ⟨r,k,rfl,ho,(Gr.bel HH0.out.1).trans hb⟩);have HT:=aW (om row base n l t W0 HO.out hn ht);clear hi h hW0;obtain ⟨c0,f0,l0⟩:=HH0.out.b0.rules;go_enter Tryz.func65,Tryz.ntmps65;go_upto_region 16 with fail;rw [HW0.out];go_wp2_with fail;refine HT.out.mono ?_;rintro e w2 ⟨r2,n2,rfl,ho2,hg2⟩;have HX:=aW (HFIN.out _ _ _ ho2 hg2);clear ho2 hg2 c0 f0 l0;go_wp2;go_ret;exact HX.out
def tu (x:JV):Prop:=∀ (row:Value) (base n:Nat) (l:List UInt8) (cs:List Value) (w:World),bc base row n l w->VR w (λ b=>b<base) cs x->n+(aJ x).length<=100000000000 ->
 Calls Tryz.prog 65 #[row,.agg cs.toArray] w (fo base (l++aJ x) row w)
theorem wm (row:Value) (base n:Nat) (l:List UInt8) (w:World) (v:Int) (t:List UInt8) (A B:Option Addr) (nk ca ny cb:Nat) (kids:List JV) (keys:List (List UInt8)) (css:List (List Value)) (h:bc base row n l w)
  (hvs:VRs w (λ b=>b<base) css kids) (hrA:RdF w (λ b=>b<base) A css.flatten) (hrB:RdF w (λ b=>b<base) B (cQ keys)) (hnk:kids.length=nk) (hny:keys.length=ny) (hkk:false=true->nk=ny) (hca:nk<=ca) (hcb:ny<=cb) (hk9:nk<=4194304) (hkl:∀ q ∈ keys,q.length<=4194304)
  (ih:∀ x ∈ kids,tu x) (hn:n+(6::(aE false kids keys++[0])).length<=100000000000) :
  Calls Tryz.prog 65 #[row,.agg #[Zi Zq 5,Zi Zq v,Zt ⟨t.toArray⟩,Zs A nk ca,Zs B ny cb]] w (fo base (l++6::(aE false kids keys++[0])) row w):=by
 obtain ⟨i0,hi,hz0,hz1,hz2⟩:=info_parts bT;have HI:=aW hi;have HH0:=aW ((aj.nil w).push 25 #[Zi Zq 5,Zi Zq v,Zt ⟨t.toArray⟩,Zs A nk ca,Zs B ny cb] (g:=w.heap.size) rfl);have HO:=aW (h.bel HH0.out.1);obtain ⟨W0,hW0⟩:∃ W0,w.alloc (.cells #[Zi Zq 5,Zi Zq v,Zt ⟨t.toArray⟩,Zs A nk ca,Zs B ny cb] 25)=W0:=⟨_,rfl⟩
 rw [hW0] at HH0 HO;have HW0:=aW hW0;have HFIN:=aW (λ (r:Value) (k:Nat) (w':World) (ho:bc base r k (l++6::(aE false kids keys++[0])) w') (hb:Gr row W0 r w')=>show fo base (l++6::(aE false kids keys++[0])) row w (.returned r) w' from ⟨r,k,rfl,ho,(Gr.bel HH0.out.1).trans hb⟩);have HVS:=aW (And.intro hvs (And.intro hrA hrB));have HIH:=aW ih;have HKL:=aW hkl;have HKK:=aW hkk;have HNK:=aW hnk;have HNY:=aW hny;have HLE:=aW (gF false kids keys);have hcl:(aE false kids keys).length+n+2<=100000000000:=by rw [List.length_cons,List.length_append] at hn;simp at hn;omega
 have HRW:=aW (λ (q:Nat) (e:row.ownBlock=some q)=>show base<=q/\q<w.heap.size from h.2.1.lt q e);have HKF:=aW (λ (r:Value) (wr:World) (hg:Gr row W0 r wr)=>show af (λ b=>b<base) w wr from ((Gr.bel HH0.out.1).trans hg).keepF (λ q hq e=>by have:=(h.2.1.lt q e.symm).1;omega));have HBX:=aW (λ (r:Value) (wr:World) (hg:Gr row W0 r wr)=>hg.blk HH0.out.b0 (λ e=>by have:=(h.2.1.lt _ e.symm).2;omega));clear hi h hW0 hvs hrA hrB ih hkl hnk hny hn hkk;obtain ⟨c0,f0,l0⟩:=HH0.out.b0.rules;go_enter Tryz.func65,Tryz.ntmps65;go_upto_region 17 with fail;rw [HW0.out];have HA2:=aW (HO.out.2.1.alloc (.cells #[Zi .u8 6] 5));have HR2:=aW (Rd.of_blk (Blk.new W0 5 #[Zi .u8 6]));have HB2:=aW (show base<=(W0.alloc (.cells #[Zi .u8 6] 5)).heap.size by have:=HO.out.2.2;simp;omega);go_upto_region 18 with (at_builtin;refine ag _ rfl _ _ 76 rfl base 5 i0 _ 1 1 Tryz.underlying76 HI.out hz0 hz1 hz2 rfl (by decide) row n (al (l)) rfl HA2.out (some ⟨W0.heap.size,0,none⟩) 1 1 (λ h=>by cases h) [Zi .u8 6] rfl rfl HR2.out (aC [6]) (by unfold maxLen;omega) (by omega) HB2.out ?_;intro row2 w2 hown2 hgr2 hob2);have H2P:=aW (HO.out.post (m:=[6]) (M:=1) hown2 rfl hgr2 hob2);clear hown2 hgr2 hob2 HA2 HR2 HB2;clear c0 f0 l0;obtain ⟨c0,f0,l0⟩:=(HBX.out _ _ H2P.out.2).rules;go_wp2;clear c0 f0 l0;go_loopg [0,66] nk (λ gk s0 s66 wr => ∃ (i m:Nat) (r:Value),r=s0/\i<=nk/\gk=nk-i/\s66=Zi Zq (i:Int)/\Hid (bc base r m (l++6::aE false (kids.take i) keys) wr)/\Hid (Gr row W0 r wr))
 case atStart=>exact ⟨0,n+1,_,rfl,Nat.zero_le _,by go_num,rfl,aW (by rw [List.take_zero,eO];exact H2P.out.1),aW H2P.out.2⟩
 case round =>
  obtain ⟨i,m,r,rfl,hi,hgk,rfl,HOW,HGW⟩:=hrel;have HG:=aW hgk;clear hgk H2P;obtain ⟨c0,f0,l0⟩:=(HBX.out _ _ HGW.out).rules;have hmn:m=n+1+(aE false (kids.take i) keys).length:=by
   have h1:=HOW.out.1;rw [List.length_append,List.length_cons,HO.out.1] at h1;omega
  have hle:=HLE.out i (by rw [HNK.out];exact hi);by_cases hlt:i<nk
  ·obtain ⟨x,hx⟩:∃ x,kids[i]? = some x:=⟨_,List.getElem?_eq_getElem (by rw [HNK.out];exact hlt)⟩
   have hKF:=HKF.out _ _ HGW.out;obtain ⟨b,o,kx,nx,sx,Ax,nax,cax,Bx,nbx,cbx,rfl,hb,hfb,hvx,hz⟩:=fd HVS.out.1 HVS.out.2.1 hx;obtain ⟨z0,z1,z2,z3,z4⟩:=hz wr hKF;have hlb:b<wr.heap.size:=Nat.lt_of_lt_of_le hb hKF.1;have hsn:=dB false i kids keys x hx;have hle2:=HLE.out (i+1) (by rw [HNK.out];omega);rw [hsn,List.length_append,List.length_append] at hle2;have HSN:=aW hsn;have hbA:=(Below.refl wr.heap.size wr).alloc (Nat.le_refl _) (.cells #[Zi Zq kx,Zi Zq nx,Zt sx,Zs Ax nax cax,Zs Bx nbx cbx] 25);have HO2:=aW (HOW.out.bel hbA);have HG2:=aW (HGW.out.trans (Gr.bel hbA));have HVX:=aW (hvx.keep hKF);have HXB:=aW (Blk.new wr 25 #[Zi Zq kx,Zi Zq nx,Zt sx,Zs Ax nax cax,Zs Bx nbx cbx]);have HIX:=aW (HIH.out x (List.mem_of_getElem? hx));have HRB:=aW (λ (q:Nat) (e:r.ownBlock=some q)=>HOW.out.2.1.lt q e);have HCL:=aW (HIX.out r base m _ _ _ HO2.out (HVX.out.bel hbA) (by have e0:(if false=true then bL (keys.getD i []) else []).length=0:=rfl;omega));clear hz hx hb hfb hvx hKF hbA hsn;go_wp2_with fail;refine HCL.out.mono ?_;rintro e w3 ⟨r3,m3,rfl,ho3,hg3⟩;have HO3:=aW ho3;have HG3:=aW (HG2.out.trans hg3);clear ho3 hg3 z0 z1 z2 z3 z4 c0 f0 l0;go_wp2;go_roundg (nk-(i+1))
   case measure=>rw [HG.out];omega
   case rel=>exact ⟨i+1,m3,r3,rfl,by omega,rfl,by go_num,aW (by rw [HSN.out];have:=HO3.out;simpa using this),HG3⟩
  ·obtain rfl:i=nk:=by omega
   have hl:kids.take i=kids:=List.take_of_length_le (Nat.le_of_eq HNK.out);rw [hl] at HOW;clear hl c0 f0 l0;have HA3:=aW (HOW.out.2.1.alloc (.cells #[Zi .u8 0] 5));have HR3:=aW (Rd.of_blk (Blk.new wr 5 #[Zi .u8 0]));have HB3:=aW (show base<=(wr.alloc (.cells #[Zi .u8 0] 5)).heap.size by have:=HOW.out.2.2;simp;omega);go_wp2_with (at_builtin;refine ag _ rfl _ _ 76 rfl base 5 i0 _ 1 1 Tryz.underlying76 HI.out hz0 hz1 hz2 rfl (by decide) r m (al (l++6::aE false kids keys)) rfl HA3.out (some ⟨wr.heap.size,0,none⟩) 1 1 (λ h=>by cases h) [Zi .u8 0] rfl rfl HR3.out (aC [0]) (by unfold maxLen;omega) (by omega) HB3.out ?_;intro row3 w3 hown3 hgr3 hob3);have H3P:=aW (HOW.out.post (m:=[0]) (M:=1) hown3 rfl hgr3 hob3);clear hown3 hgr3 hob3 HA3 HR3 HB3;have HX:=aW (HFIN.out _ _ _ (by have:=H3P.out.1;simpa using this) (HGW.out.trans H3P.out.2));go_ret;exact HX.out
theorem xg (row:Value) (base n:Nat) (l:List UInt8) (w:World) (v:Int) (t:List UInt8) (A B:Option Addr) (nk ca ny cb:Nat) (kids:List JV) (keys:List (List UInt8)) (css:List (List Value)) (h:bc base row n l w)
  (hvs:VRs w (λ b=>b<base) css kids) (hrA:RdF w (λ b=>b<base) A css.flatten) (hrB:RdF w (λ b=>b<base) B (cQ keys)) (hnk:kids.length=nk) (hny:keys.length=ny) (hkk:true=true->nk=ny) (hca:nk<=ca) (hcb:ny<=cb) (hk9:nk<=4194304) (hkl:∀ q ∈ keys,q.length<=4194304)
  (ih:∀ x ∈ kids,tu x) (hn:n+(7::(aE true kids keys++[0])).length<=100000000000) :
  Calls Tryz.prog 65 #[row,.agg #[Zi Zq 6,Zi Zq v,Zt ⟨t.toArray⟩,Zs A nk ca,Zs B ny cb]] w (fo base (l++7::(aE true kids keys++[0])) row w):=by
 obtain ⟨i0,hi,hz0,hz1,hz2⟩:=info_parts bT;have HI:=aW hi;have HH0:=aW ((aj.nil w).push 25 #[Zi Zq 6,Zi Zq v,Zt ⟨t.toArray⟩,Zs A nk ca,Zs B ny cb] (g:=w.heap.size) rfl);have HO:=aW (h.bel HH0.out.1);obtain ⟨W0,hW0⟩:∃ W0,w.alloc (.cells #[Zi Zq 6,Zi Zq v,Zt ⟨t.toArray⟩,Zs A nk ca,Zs B ny cb] 25)=W0:=⟨_,rfl⟩
 rw [hW0] at HH0 HO;have HW0:=aW hW0;have HFIN:=aW (λ (r:Value) (k:Nat) (w':World) (ho:bc base r k (l++7::(aE true kids keys++[0])) w') (hb:Gr row W0 r w')=>show fo base (l++7::(aE true kids keys++[0])) row w (.returned r) w' from ⟨r,k,rfl,ho,(Gr.bel HH0.out.1).trans hb⟩);have HVS:=aW (And.intro hvs (And.intro hrA hrB));have HIH:=aW ih;have HKL:=aW hkl;have HKK:=aW hkk;have HNK:=aW hnk;have HNY:=aW hny;have HLE:=aW (gF true kids keys);have hcl:(aE true kids keys).length+n+2<=100000000000:=by rw [List.length_cons,List.length_append] at hn;simp at hn;omega
 have HRW:=aW (λ (q:Nat) (e:row.ownBlock=some q)=>show base<=q/\q<w.heap.size from h.2.1.lt q e);have HKF:=aW (λ (r:Value) (wr:World) (hg:Gr row W0 r wr)=>show af (λ b=>b<base) w wr from ((Gr.bel HH0.out.1).trans hg).keepF (λ q hq e=>by have:=(h.2.1.lt q e.symm).1;omega));have HBX:=aW (λ (r:Value) (wr:World) (hg:Gr row W0 r wr)=>hg.blk HH0.out.b0 (λ e=>by have:=(h.2.1.lt _ e.symm).2;omega));clear hi h hW0 hvs hrA hrB ih hkl hnk hny hn hkk;obtain ⟨c0,f0,l0⟩:=HH0.out.b0.rules;go_enter Tryz.func65,Tryz.ntmps65;go_upto_region 19 with fail;rw [HW0.out];have HA2:=aW (HO.out.2.1.alloc (.cells #[Zi .u8 7] 5));have HR2:=aW (Rd.of_blk (Blk.new W0 5 #[Zi .u8 7]));have HB2:=aW (show base<=(W0.alloc (.cells #[Zi .u8 7] 5)).heap.size by have:=HO.out.2.2;simp;omega);go_upto_region 20 with (at_builtin;refine ag _ rfl _ _ 76 rfl base 5 i0 _ 1 1 Tryz.underlying76 HI.out hz0 hz1 hz2 rfl (by decide) row n (al (l)) rfl HA2.out (some ⟨W0.heap.size,0,none⟩) 1 1 (λ h=>by cases h) [Zi .u8 7] rfl rfl HR2.out (aC [7]) (by unfold maxLen;omega) (by omega) HB2.out ?_;intro row2 w2 hown2 hgr2 hob2);have H2P:=aW (HO.out.post (m:=[7]) (M:=1) hown2 rfl hgr2 hob2);clear hown2 hgr2 hob2 HA2 HR2 HB2;clear c0 f0 l0;obtain ⟨c0,f0,l0⟩:=(HBX.out _ _ H2P.out.2).rules;go_wp2;clear c0 f0 l0;go_loopg [0,66] nk (λ gk s0 s66 wr => ∃ (i m:Nat) (r:Value),r=s0/\i<=nk/\gk=nk-i/\s66=Zi Zq (i:Int)/\Hid (bc base r m (l++7::aE true (kids.take i) keys) wr)/\Hid (Gr row W0 r wr))
 case atStart=>exact ⟨0,n+1,_,rfl,Nat.zero_le _,by go_num,rfl,aW (by rw [List.take_zero,eO];exact H2P.out.1),aW H2P.out.2⟩
 case round =>
  obtain ⟨i,m,r,rfl,hi,hgk,rfl,HOW,HGW⟩:=hrel;have HG:=aW hgk;clear hgk H2P;obtain ⟨c0,f0,l0⟩:=(HBX.out _ _ HGW.out).rules;have hmn:m=n+1+(aE true (kids.take i) keys).length:=by
   have h1:=HOW.out.1;rw [List.length_append,List.length_cons,HO.out.1] at h1;omega
  have hle:=HLE.out i (by rw [HNK.out];exact hi);by_cases hlt:i<nk
  ·obtain ⟨x,hx⟩:∃ x,kids[i]? = some x:=⟨_,List.getElem?_eq_getElem (by rw [HNK.out];exact hlt)⟩
   have hKF:=HKF.out _ _ HGW.out;obtain ⟨b,o,kx,nx,sx,Ax,nax,cax,Bx,nbx,cbx,rfl,hb,hfb,hvx,hz⟩:=fd HVS.out.1 HVS.out.2.1 hx;obtain ⟨z0,z1,z2,z3,z4⟩:=hz wr hKF;have hlb:b<wr.heap.size:=Nat.lt_of_lt_of_le hb hKF.1;have hsn:=dB true i kids keys x hx;have hle2:=HLE.out (i+1) (by rw [HNK.out];omega);rw [hsn,List.length_append,List.length_append] at hle2;have HSN:=aW hsn;have hbA:=(Below.refl wr.heap.size wr).alloc (Nat.le_refl _) (.cells #[Zi Zq kx,Zi Zq nx,Zt sx,Zs Ax nax cax,Zs Bx nbx cbx] 25);have HO2:=aW (HOW.out.bel hbA);have HG2:=aW (HGW.out.trans (Gr.bel hbA));have HVX:=aW (hvx.keep hKF);have HXB:=aW (Blk.new wr 25 #[Zi Zq kx,Zi Zq nx,Zt sx,Zs Ax nax cax,Zs Bx nbx cbx]);have HIX:=aW (HIH.out x (List.mem_of_getElem? hx));have HRB:=aW (λ (q:Nat) (e:r.ownBlock=some q)=>HOW.out.2.1.lt q e);have hy:i<keys.length:=by rw [HNY.out];have:=HKK.out (by first | trivial | rfl);omega
   have hrd:=(HVS.out.2.2).keep hKF;obtain ⟨by_,oy,rfl,hby,_,hcy⟩:=hrd (by intro e;have:=cP keys;rw [e] at this;simp at this;omega);have y0:wr.cell? ⟨by_,oy+i,none⟩=some (Zt ⟨keys[i].toArray⟩):=by rw [hcy i (by rw [cP];exact hy)];simp [cQ]
   have hkd:keys.getD i []=keys[i]:=by rw [List.getD_eq_getElem?_getD,List.getElem?_eq_getElem hy,Option.getD_some]
   have hkc:(if true=true then bL (keys.getD i []) else [])=bL keys[i]:=by rw [if_pos rfl,hkd]
   rw [hkc] at hle2;obtain ⟨ky,hky⟩:∃ q,keys[i]=q:=⟨_,rfl⟩
   have hkyl:ky.length<=4194304:=by rw [← hky];exact HKL.out _ (List.getElem_mem hy)
   rw [hky] at y0 hle2 hkc;have HKC:=aW hkc;have hiny:i<ny:=by have:=HKK.out (by first | trivial | rfl);omega
   have HTX:=aW (om r base m _ ky _ HO2.out (by omega) hkyl);clear hz hx hb hfb hvx hKF hsn hrd hcy hkc hkd hky hy;go_upto_region 25 with ((go_at_call 102;refine HTX.out.mono ?_;rintro e w3 ⟨r3,m3,rfl,ho3,hg3⟩));have HO3:=aW ho3;have HG3:=aW (HG2.out.trans hg3);have HX3:=aW (hg3.blk HXB.out (λ e=>by have:=(HRB.out _ e.symm).2;omega));have hm3:m3=m+(bL ky).length:=by have h1:=ho3.1;have h2:=HO2.out.1;rw [List.length_append,h2] at h1;omega
   have HCL:=aW (HIX.out r3 base m3 _ _ _ HO3.out ((HVX.out.bel hbA).keep (hg3.keepF (λ q hq e=>by have:=(HRB.out _ e.symm).1;omega))) (by omega));clear ho3 hg3 z0 z1 z2 z3 z4 c0 f0 l0 y0 hbA;obtain ⟨c0,f0,l0⟩:=HX3.out.rules;go_wp2_with fail;refine HCL.out.mono ?_;rintro e w4 ⟨r4,m4,rfl,ho4,hg4⟩;have HO4:=aW ho4;have HG4:=aW (HG3.out.trans hg4);clear ho4 hg4 c0 f0 l0;go_wp2;go_roundg (nk-(i+1))
   case measure=>rw [HG.out];omega
   case rel=>exact ⟨i+1,m4,r4,rfl,by omega,rfl,by go_num,aW (by rw [HSN.out,HKC.out];have:=HO4.out;simpa using this),HG4⟩
  ·obtain rfl:i=nk:=by omega
   have hl:kids.take i=kids:=List.take_of_length_le (Nat.le_of_eq HNK.out);rw [hl] at HOW;clear hl c0 f0 l0;have HA3:=aW (HOW.out.2.1.alloc (.cells #[Zi .u8 0] 5));have HR3:=aW (Rd.of_blk (Blk.new wr 5 #[Zi .u8 0]));have HB3:=aW (show base<=(wr.alloc (.cells #[Zi .u8 0] 5)).heap.size by have:=HOW.out.2.2;simp;omega);go_wp2_with (at_builtin;refine ag _ rfl _ _ 76 rfl base 5 i0 _ 1 1 Tryz.underlying76 HI.out hz0 hz1 hz2 rfl (by decide) r m (al (l++7::aE true kids keys)) rfl HA3.out (some ⟨wr.heap.size,0,none⟩) 1 1 (λ h=>by cases h) [Zi .u8 0] rfl rfl HR3.out (aC [0]) (by unfold maxLen;omega) (by omega) HB3.out ?_;intro row3 w3 hown3 hgr3 hob3);have H3P:=aW (HOW.out.post (m:=[0]) (M:=1) hown3 rfl hgr3 hob3);clear hown3 hgr3 hob3 HA3 HR3 HB3;have HX:=aW (HFIN.out _ _ _ (by have:=H3P.out.1;simpa using this) (HGW.out.trans H3P.out.2));go_ret;exact HX.out
end
end Go.Proofs.YtgolomgmnanbpaaGreatDoor
