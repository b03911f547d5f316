import Derived.Test.YtgolomgmnanbpaaGreatDoorV36
import Derived.Test.YtgolomgmnanbpaaGreatDoorV37
import Derived.Test.YtgolomgmnanbpaaGreatDoorV38
open Go.Value renaming int → Zi, slice → Zs, string → Zt, pointer → Zp
open Go.IntKind renaming i64 → Zq
set_option maxRecDepth 100000
set_option maxHeartbeats 16000000
set_option linter.unusedVariables false
set_option linter.unusedSimpArgs false
namespace Go.Proofs.YtgolomgmnanbpaaGreatDoor
section
open Go.RowKit
theorem jW:∀ (r:Nat) (x:EJ),bh x->bh (dU r x)
 |0,.mk k v s kids,h=>by
  unfold bh at h;unfold dU bh;exact ⟨h.1,h.2.1,h.2.2.1,by simp,trivial⟩
 |r+1,.mk k v s kids,h=>by
  unfold bh at h;unfold dU bh;refine ⟨h.1,h.2.1,h.2.2.1,by simp;omega,cz.2 λ x hx=>?_⟩;obtain ⟨y,hy,rfl⟩:=List.mem_map.1 hx;exact jW r y (cz.1 h.2.2.2.2 y (List.mem_of_mem_take hy))
theorem kd:∀ (r:Nat) (x:EJ),eq (dU r x)
 |0,.mk k v s kids=>by
  unfold dU eq;exact ⟨by simp,trivial⟩
 |r+1,.mk k v s kids=>by
  unfold dU eq;refine ⟨by simp;omega,eL.2 λ x hx=>?_⟩;obtain ⟨y,hy,rfl⟩:=List.mem_map.1 hx;exact kd r y
theorem jN (r:Nat) (l:List SJ):(du r l).length<=5:=by
 cases r with
 | zero=>simp [du]
 | succ r=>simp [du];omega
theorem kw:∀ (r:Nat) (l:List SJ),bK l->bK (du r l)
 | 0,l,h=>trivial
 |r+1,l,h=>dg.2 λ x hx=>by
  unfold du at hx;obtain ⟨y,hy,rfl⟩:=List.mem_map.1 hx;have h1:=dg.1 h y (List.mem_of_mem_take hy);obtain ⟨k,s,a,b,body,els⟩:=y;unfold gI at h1;obtain ⟨g1,g2,g3,g4,g5,g6,g7,g8⟩:=h1;unfold eE gI;have e1:=jN r body;have e2:=jN r els;exact ⟨g1,g2,jW 14 a g3,jW 14 b g4,by omega,by omega,kw r body g7,kw r els g8⟩
theorem jM:∀ (r:Nat) (l:List SJ),ee (du r l)
 | 0,l=>trivial
 |r+1,l=>fH.2 λ x hx=>by
  unfold du at hx;obtain ⟨y,hy,rfl⟩:=List.mem_map.1 hx;obtain ⟨k,s,a,b,body,els⟩:=y;unfold eE oV;exact ⟨kd 14 a,kd 14 b,jM r body,jM r els⟩
def wE (l:List SJ) (F:Nat->Prop) (w:World) (e:Ending) (w':World):Prop:=∃ (A:Option Addr) (n ca:Nat) (css:List (List Value)),e=.returned (.agg #[Zs A n ca])/\n=l.length/\n<=ca/\(A=none->ca=0)/\SRs w' (FN F w) css l/\RdF w' (FN F w) A css.flatten/\Below w.heap.size w w'
theorem yz (F:Nat->Prop) (l:List SJ) (A:Option Addr) (n ca:Nat) (css:List (List Value)) (w:World) (hF:∀ b,F b->b<w.heap.size) (hS:SRs w F css l) (hR:RdF w F A css.flatten) (hln:l.length=n) (hnc:n<=ca) (hC:bK l) (hn:n<=4194304) :
  Calls Tryz.prog 19 #[.agg #[Zs A n ca]] w (wE (du 6 l) F w):=by
 have HC:=aW (λ (W:World) (hb:Below w.heap.size w W)=>sL F 6 l A n ca css 6 W rfl (λ b h=>Nat.lt_of_lt_of_le (hF b h) hb.size) (RR.imp hS λ c x hc=>hc.bel hb) (hR.keep (af.of_below hb)) hln hnc hC hn (Nat.le_refl _));have HH0:=aW (((aj.nil w).push 46 #[Zs A n ca] (g:=w.heap.size) rfl).push 46 #[Zs none 0 0] (g:=w.heap.size+1) (by simp));have hF0:=hF;clear hF hS hR hln hC;go_enter Tryz.func19,Tryz.ntmps19;go_wp2_with fail;refine (HC.out _ HH0.out.1).mono ?_;rintro e w1 ⟨A1,n1,ca1,css1,rfl,h1,h2,h3,h4,h5,h6⟩;have HH1:=aW (HH0.out.keep h6);have hsz:w.heap.size+1<w1.heap.size:=HH1.out.b0.lt;have HX:=aW (show wE (du 6 l) F w (.returned (.agg #[Zs A1 n1 ca1])) (w1.setCell ⟨w.heap.size+1,0,none⟩ (Zs A1 n1 ca1)) from
  ⟨A1,n1,ca1,css1,rfl,h1,h2,h3,(RR.imp h4 λ c x hc=>(hc.keep (af.set af.refl (λ b hb=>by
   rcases hb with hb | hb
   ·exact Nat.ne_of_lt (Nat.lt_succ_of_lt (hF0 b hb))
   ·simp at hb;omega) 0 _)).mono λ b _ hb=>hb.imp id λ hb=>by simp at hb;omega),(h5.keep (af.set af.refl (λ b hb=>by
   rcases hb with hb | hb
   ·exact Nat.ne_of_lt (Nat.lt_succ_of_lt (hF0 b hb))
   ·simp at hb;omega) 0 _)).mono λ b _ hb=>hb.imp id λ hb=>by simp at hb;omega,HH1.out.1.setCell (p:=⟨w.heap.size+1,0,none⟩) (Nat.le_succ _) _⟩)
 obtain ⟨c0,f0,l0⟩:=HH1.out.b0.rules;clear h1 h2 h3 h4 h5 h6;go_wp2;refine bodyPost_ret (v:=.agg #[Zs A1 n1 ca1]) (by simp only [results,Tryz.results19];go_simp) rfl ?_;exact HX.out
/-- a text,not more than so many bytes -/
theorem yA (s:ByteArray) (q:Int) (w:World) (hq:q=60) (hs:s.size<=maxLen):Calls Tryz.prog 20 #[Zt s,Zi Zq q] w λ e w'=>e=.returned (Zt ⟨((sl s).take 60).toArray⟩)/\w'=w:=by
 unfold maxLen at hs;obtain ⟨n,hn⟩:∃ n,s.size=n:=⟨_,rfl⟩
 obtain ⟨m,hm⟩:∃ m,min n 60=m:=⟨_,rfl⟩
 have hmn:m<=n:=by omega
 have HMI:=aW (show min (n:Int) 60=(m:Int) by omega);have hif:(if (60:Int)<(n:Int) then (60:Int) else (n:Int))=(m:Int):=by split<;>omega
 have HKEY:=aW (show s.extract 0 m=⟨((sl s).take 60).toArray⟩ by
  refine fI ?_;rw [fW];have e:(sl s).take 60=(sl s).take m:=by rw [← hm,← hn,← bR,Nat.min_comm,← List.take_take,List.take_length]
  rw [e];show (s.extract 0 m).data.toList=s.data.toList.take m
  rw [ByteArray.data_extract,Array.toList_extract];simp [List.extract])
 clear hm;go_enter Tryz.func20,Tryz.ntmps20;go_wp2;go_ret;refine ⟨sR ?_,rfl⟩
 try rw [HMI.out]
 try rw [Int.toNat_natCast]
 exact HKEY.out
end
section
open Go.RowKit
attribute [local go_sem] aa ac ae ab
theorem jQ {W:World} {F:Nat->Prop} {css:List (List Value)} {xs:List (JV × JV)} {A:Option Addr} (h:e9 W F css xs) (hr:RdF W F A css.flatten) {i:Nat} {x:JV × JV} (hx:xs[i]? = some x) :
  ∃ (b o:Nat) (k n:Int) (s:ByteArray) (A1:Option Addr) (na ca:Nat) (B1:Option Addr) (nb cb:Nat) (k' n':Int) (s':ByteArray) (A1':Option Addr) (na' ca':Nat) (B1':Option Addr) (nb' cb':Nat),A=some ⟨b,o,none⟩/\b<W.heap.size /\
   VR W F [Zi Zq k,Zi Zq n,Zt s,Zs A1 na ca,Zs B1 nb cb] x.1/\VR W F [Zi Zq k',Zi Zq n',Zt s',Zs A1' na' ca',Zs B1' nb' cb'] x.2 /\
   ∀ W',Below W.heap.size W W'->(W'.cell? ⟨b,o+i*10,none⟩=some (Zi Zq k)/\W'.cell? ⟨b,o+i*10+1,none⟩=some (Zi Zq n)/\W'.cell? ⟨b,o+i*10+2,none⟩=some (Zt s)/\W'.cell? ⟨b,o+i*10+3,none⟩=some (Zs A1 na ca) /\
    W'.cell? ⟨b,o+i*10+4,none⟩=some (Zs B1 nb cb))/\(W'.cell? ⟨b,o+i*10+5,none⟩=some (Zi Zq k')/\W'.cell? ⟨b,o+i*10+6,none⟩=some (Zi Zq n')/\W'.cell? ⟨b,o+i*10+7,none⟩=some (Zt s') /\
    W'.cell? ⟨b,o+i*10+8,none⟩=some (Zs A1' na' ca')/\W'.cell? ⟨b,o+i*10+9,none⟩=some (Zs B1' nb' cb')):=by
 obtain ⟨b,o,c,rfl,hb,_,hc,hv,hz⟩:=h.cell (λ c x h=>h.len) (by decide) hr hx;obtain ⟨c1,c2,rfl,hv1,hv2⟩:=hv;obtain ⟨k,n,s,A1,na,ca,B1,nb,cb,rfl⟩:=hv1.form;obtain ⟨k',n',s',A1',na',ca',B1',nb',cb',rfl⟩:=hv2.form;refine ⟨b,o,k,n,s,A1,na,ca,B1,nb,cb,k',n',s',A1',na',ca',B1',nb',cb',rfl,hb,hv1,hv2,λ W' hW=>?_⟩;have z:=λ (j:Nat) u (hj:j<10) hu=>(hW.cell (p:=⟨b,o+(i*10+j),none⟩) hb).trans (hz j u hj hu)
 exact ⟨⟨z 0 _ (by decide) rfl,z 1 _ (by decide) rfl,z 2 _ (by decide) rfl,z 3 _ (by decide) rfl,z 4 _ (by decide) rfl⟩,z 5 _ (by decide) rfl,z 6 _ (by decide) rfl,z 7 _ (by decide) rfl,z 8 _ (by decide) rfl,z 9 _ (by decide) rfl⟩
mutual
theorem kA:∀ (x:EJ),gW 4194304 x->bh x
 | .mk k v s kids,h=>by
  unfold gW at h;obtain ⟨_,h1,h2,h3,h4,h5,h6⟩:=h;unfold bh;exact ⟨h1,au.of h2 h3,h4,h5,kY kids h6⟩
theorem kY:∀ (l:List EJ),fV 4194304 l->kj l
 | [],_=>trivial
 | x::r,h=>by unfold fV at h;unfold kj;exact ⟨kA x h.1,kY r h.2⟩
end
mutual
theorem ro:∀ (x:SJ),eV 4194304 x->gI x
 | .mk k s a b body els,h=>by
  unfold eV at h;obtain ⟨_,h1,h2,h3,h4,h5,h6,h7,h8⟩:=h;unfold gI;exact ⟨h1,h2,kA a h3,kA b h4,h5,h6,fA body h7,fA els h8⟩
theorem fA:∀ (l:List SJ),fl 4194304 l->bK l
 | [],_=>trivial
 | x::r,h=>by unfold fl at h;unfold bK;exact ⟨ro x h.1,fA r h.2⟩
end
theorem qz {l:List SJ} (h:∀ v ∈ l,eV 4194304 v):bK l:=fA l (fy.2 h)
theorem q7 (l:List SJ) (id:List UInt8) (v:JV):(∃ q,eQ l id v=([],q)/\(q=332∨q=290∨q=140)) ∨
  (eQ l id v).2=0/\(eQ l id v).1.length<=4/\∀ y ∈ (eQ l id v).1,good y.1=true/\good y.2=true/\(aJ y.1).length<=90/\(bf y.2).length<=100:=by
 unfold eQ;by_cases h1:jb l=false
 ·rw [if_pos h1];exact .inl ⟨332,rfl,.inl rfl⟩
 rw [if_neg h1];by_cases h2:gi id=false
 ·rw [if_pos h2];exact .inl ⟨290,rfl,.inr (.inl rfl)⟩
 rw [if_neg h2];by_cases h3:good v=false
 ·rw [if_pos h3];exact .inl ⟨140,rfl,.inr (.inr rfl)⟩
 rw [if_neg h3];right;have hgt:good (bQ id)=true:=by
  have h1:=j2 (show gi id=true by simpa using h2);unfold good bQ aN aI ar ay bz;simp [h1]
 have h:=(ij l (gP id v) 12 (0,[]) (λ b hb=>by
  rcases List.mem_cons.1 hb with rfl | hb
  ·simpa using h3
  ·obtain rfl:=List.mem_singleton.1 hb;exact hgt) (by unfold jb at h1;simpa using h1) ⟨by show 0<=4;omega,by show 0<=256;omega,λ e he=>by cases he⟩).1
 exact ⟨rfl,h.1,h.2.2⟩
theorem ox {v:JV} (hg:good v=true) (hc:au v) {cs cs':List Value} {w:World} (h:VR w TT cs v) (h':VR w TT cs' v):Calls Tryz.prog 18 #[.agg cs.toArray,.agg cs'.toArray] w (aF true w):=by
 refine (vu v v cs cs' TT TT w h h' hc hc).mono ?_;rintro e w' ⟨t,rfl,ht,hb⟩;exact ⟨by rw [ht.2 ⟨hg,hg,rfl⟩],hb⟩
theorem vM (xs:List (JV × JV)) (A B:Option Addr) (n ca cb:Nat) (css dss:List (List Value)) (w:World) (h1:e9 w TT css xs) (r1:RdF w TT A css.flatten) (h2:e9 w TT dss xs) (r2:RdF w TT B dss.flatten) (hn:xs.length=n) (hn4:n<=4)
  (hg:∀ y ∈ xs,good y.1=true/\good y.2=true) (hc:∀ y ∈ xs,au y.1/\au y.2) :
  Calls Tryz.prog 24 #[Zs A n ca,Zs B n cb] w (aF true w):=by
 have HK:=aW (And.intro (And.intro h1 r1) (And.intro h2 r2));have HQ:=aW (And.intro hn (And.intro hg hc));have HW:=aW (Below.refl w.heap.size w);clear h1 r1 h2 r2 hn hg hc;go_enter Tryz.func24,Tryz.ntmps24;go_upto_region 4 with fail;go_loopg [5] n (λ gk s5 wr => ∃ (i:Nat),i<=n/\gk=n-i/\s5=Zi Zq (i:Int)/\Hid (Below w.heap.size w wr))
 case atStart=>exact ⟨0,Nat.zero_le _,by go_num,rfl,HW⟩
 case round =>
  obtain ⟨i,hin,hgk,rfl,HWR⟩:=hrel;have HGK:=aW hgk;clear hgk;by_cases hlt:i<n
  ·obtain ⟨x,hx⟩:∃ x,xs[i]? = some x:=⟨_,List.getElem?_eq_getElem (by rw [HQ.out.1];omega)⟩
   have hxm:=List.mem_of_getElem? hx;obtain ⟨b1,o1,k1,n1,s1,A1,na1,ca1,B1,nb1,cb1,k2,n2,s2,A2,na2,ca2,B2,nb2,cb2,rfl,hb1,hv1,hv2,hz1⟩:=jQ HK.out.1.1 HK.out.1.2 hx;obtain ⟨b2,o2,k3,n3,s3,A3,na3,ca3,B3,nb3,cb3,k4,n4,s4,A4,na4,ca4,B4,nb4,cb4,rfl,hb2,hv3,hv4,hz2⟩:=jQ HK.out.2.1 HK.out.2.2 hx;have HZ1:=aW hz1;have HZ2:=aW hz2;have HS1:=aW (λ (W:World) (h:Below wr.heap.size wr W)=>have hb:=HWR.out.trans (h.mono HWR.out.size);ox (HQ.out.2.1 x hxm).1 (HQ.out.2.2 x hxm).1 (hv1.bel hb) (hv3.bel hb));have HS2:=aW (λ (W:World) (h:Below wr.heap.size wr W)=>have hb:=HWR.out.trans (h.mono HWR.out.size);ox (HQ.out.2.1 x hxm).2 (HQ.out.2.2 x hxm).2 (hv2.bel hb) (hv4.bel hb));have hp1:b1<wr.heap.size:=Nat.lt_of_lt_of_le hb1 HWR.out.size;have hp2:b2<wr.heap.size:=Nat.lt_of_lt_of_le hb2 HWR.out.size;clear hx hxm hb1 hv1 hv2 hz1 hb2 hv3 hv4 hz2;go_upto_region 6 with fail;refine wp_region_held_drew (S:=λ W'=>Below wr.heap.size wr W') (by kernel_rfl) (by exact (Below.refl _ _).drew) (λ hHeld=>?_);refine az (λ w2 hw2=>?_);have HB2:=aW (show Below wr.heap.size wr w2 by rw [hw2];exact (Below.refl _ _).drew);clear hw2;refine tA 0 17 (Zs (some ⟨b1,o1,none⟩) n ca) rfl ?_;refine tA 1 18 (Zi Zq (i:Int)) rfl ?_;refine tA 2 19 (Zp (some ⟨b1,o1+i*10,none⟩)) rfl ?_;refine tA 3 20 (Zp (some ⟨b1,o1+i*10,none⟩)) rfl ?_;refine aY 4 21 (.agg #[Zi Zq k1,Zi Zq n1,Zt s1,Zs A1 na1 ca1,Zs B1 nb1 cb1]) rfl ?_ ?_
   ·intro W hSw;obtain ⟨⟨z0,z1,z2,z3,z4⟩,z5,z6,z7,z8,z9⟩:=HZ1.out W (Below.trans HWR.out (hSw.mono HWR.out.size));go_simp
   refine tA 5 22 (Zs (some ⟨b2,o2,none⟩) n cb) rfl ?_;refine tA 6 23 (Zi Zq (i:Int)) rfl ?_;refine tA 7 24 (Zp (some ⟨b2,o2+i*10,none⟩)) rfl ?_;refine tA 8 25 (Zp (some ⟨b2,o2+i*10,none⟩)) rfl ?_;refine aY 9 26 (.agg #[Zi Zq k3,Zi Zq n3,Zt s3,Zs A3 na3 ca3,Zs B3 nb3 cb3]) rfl ?_ ?_
   ·intro W hSw;obtain ⟨⟨z0,z1,z2,z3,z4⟩,z5,z6,z7,z8,z9⟩:=HZ2.out W (Below.trans HWR.out (hSw.mono HWR.out.size));go_simp
   refine aV 10 27 rfl (λ K hK=>?_);go_simp;refine (HS1.out _ HB2.out).mono ?_;rintro e w3 ⟨rfl,hb3⟩;have HB3:=aW (HB2.out.trans (hb3.mono HB2.out.size));clear hb3;refine hK.out _ _ (by exact HB3.out) (λ hHeld2=>?_);clear hK K hHeld;have hHeld:=hHeld2;clear hHeld2
   try simp only [pU]
   refine tA 11 28 (.bool false) rfl ?_;refine tA 12 29 (.bool false) rfl ?_;refine tA 13 30 (Zs (some ⟨b1,o1,none⟩) n ca) rfl ?_;refine tA 14 31 (Zi Zq (i:Int)) rfl ?_;refine tA 15 32 (Zp (some ⟨b1,o1+i*10,none⟩)) rfl ?_;refine tA 16 33 (Zp (some ⟨b1,o1+i*10+5,none⟩)) rfl ?_;refine aY 17 34 (.agg #[Zi Zq k2,Zi Zq n2,Zt s2,Zs A2 na2 ca2,Zs B2 nb2 cb2]) rfl ?_ ?_
   ·intro W hSw;obtain ⟨⟨z0,z1,z2,z3,z4⟩,z5,z6,z7,z8,z9⟩:=HZ1.out W (Below.trans HWR.out (hSw.mono HWR.out.size));go_simp
   refine tA 18 35 (Zs (some ⟨b2,o2,none⟩) n cb) rfl ?_;refine tA 19 36 (Zi Zq (i:Int)) rfl ?_;refine tA 20 37 (Zp (some ⟨b2,o2+i*10,none⟩)) rfl ?_;refine tA 21 38 (Zp (some ⟨b2,o2+i*10+5,none⟩)) rfl ?_;refine aY 22 39 (.agg #[Zi Zq k4,Zi Zq n4,Zt s4,Zs A4 na4 ca4,Zs B4 nb4 cb4]) rfl ?_ ?_
   ·intro W hSw;obtain ⟨⟨z0,z1,z2,z3,z4⟩,z5,z6,z7,z8,z9⟩:=HZ2.out W (Below.trans HWR.out (hSw.mono HWR.out.size));go_simp
   refine aV 23 40 rfl (λ K hK=>?_);go_simp;refine (HS2.out _ HB3.out).mono ?_;rintro e w4 ⟨rfl,hb4⟩;have HB4:=aW (HB3.out.trans (hb4.mono HB3.out.size));clear hb4;refine hK.out _ _ (by exact HB4.out) (λ hHeld2=>?_);clear hK K hHeld;have hHeld:=hHeld2;clear hHeld2
   try simp only [pU]
   refine tA 24 41 (.bool false) rfl ?_;refine tA 25 42 (.bool false) rfl ?_;refine aX ?_;go_wp2;go_roundg (n-(i+1))
   case measure=>have:=HGK.out;omega
   case rel=>exact ⟨i+1,by omega,rfl,by go_num,aW (HWR.out.trans (HB4.out.mono HWR.out.size))⟩
  ·obtain rfl:i=n:=by omega
   go_wp2;go_ret;exact ⟨rfl,HWR.out⟩
theorem kM (A:Option Addr) (ca:Nat) (l:List SJ) (s1:ByteArray) (cs2:Array Value) (x2:JV) (w:World) (hG:GOE w) (hS0:wG w A ca l) (hL:∀ v ∈ l,eV 4194304 v) (hn0:l.length<=4194304) (h1:s1.size<=maxLen) (h2:VR w TT cs2.toList x2) (c2:au x2) :
  Calls Tryz.prog 4 #[.agg #[Zs A l.length ca],Zt s1,.agg cs2] w (aF true w):=by
 obtain ⟨l2,rfl⟩:∃ l:List Value,cs2=l.toArray:=⟨cs2.toList,by simp⟩
 replace h2:VR w TT l2 x2:=by simpa using h2
 obtain ⟨css,hS,hnc,hA,hR⟩:=hS0;obtain ⟨n,hn⟩:∃ n,l.length=n:=⟨_,rfl⟩
 rw [hn] at hnc hn0 ⊢;have hcl:=qz hL;have HFW:=aW (λ (W:World) (hb:Below w.heap.size w W)=>yz (λ b=>b<w.heap.size) l A n ca css W (λ b hb'=>Nat.lt_of_lt_of_le hb' hb.size) (RR.imp hS λ c x hc=>(hc.mono (F':=λ b=>b<w.heap.size) λ b hb' _=>hb').bel hb) ((hR.mono (F':=λ b=>b<w.heap.size) λ b hb' _=>hb').keep (af.of_below hb)) hn hnc hcl hn0);obtain ⟨id,hid⟩:∃ r,(sl s1).take 60=r:=⟨_,rfl⟩
 have hidl:id.length<=4194304:=by rw [← hid];simp;omega
 have HCUT:=aW (λ (W:World)=>yA s1 60 W rfl h1);rw [hid] at HCUT;have hlen6:=jN 6 l;obtain ⟨l6,hl6⟩:∃ r,du 6 l=r:=⟨_,rfl⟩
 have HC6:=aW (show bK l6/\ee l6/\l6.length<=4194304 by rw [← hl6];exact ⟨kw 6 l hcl,jM 6 l,by omega⟩);rw [hl6] at HFW;have HV2:=aW (And.intro h2 c2);obtain ⟨k2,n2,s2,A2,na2,ca2,B2,nb2,cb2,rfl⟩:=h2.form;have HG:=aW hG;have HID:=aW hidl;have HH0:=aW (((aj.nil w).push 46 #[Zs A n ca] (g:=w.heap.size) rfl).push 25 #[Zi Zq k2,Zi Zq n2,Zt s2,Zs A2 na2 ca2,Zs B2 nb2 cb2] (g:=w.heap.size+1) (by simp));clear hG hS hnc hA hR hn hcl hid hidl hl6 h1 h2 c2 hL hn0 hlen6;go_enter Tryz.func4,Tryz.ntmps4;go_wp2_with fail;refine (uB _ (HG.out.keep HH0.out.1)).mono ?_;rintro e w1 ⟨rfl,hb1⟩;have HH1:=aW (HH0.out.keep hb1);clear hb1 HH0;obtain ⟨c0,f0,l0⟩:=HH1.out.b1.rules;go_wp2_with fail;refine (HFW.out _ HH1.out.1).mono ?_;rintro e w3 ⟨A3,n3,ca3,css3,rfl,hn3,hnc3,hA3,hS3,hR3,hb3⟩;have HH3:=aW ((HH1.out.keep hb3).push 46 #[Zs A3 n3 ca3] (g:=w3.heap.size) rfl);obtain ⟨W4,hW4⟩:∃ q,w3.alloc (.cells #[Zs A3 n3 ca3] 46)=q:=⟨_,rfl⟩
 have hb34:Below w3.heap.size w3 W4:=by rw [← hW4];exact (Below.refl _ w3).alloc (Nat.le_refl _) _
 have HS4:=aW (show SRs W4 TT css3 l6/\RdF W4 TT A3 css3.flatten from ⟨RR.imp hS3 λ c x hc=>(hc.mono (F':=TT) λ _ _ _=>trivial).bel hb34,(hR3.mono (F':=TT) λ _ _ _=>trivial).keep (af.of_below hb34)⟩);have HN3:=aW (And.intro hn3.symm hnc3);rw [hW4] at HH3;have HW4:=aW hW4;clear hb34 hW4 hn3 hnc3 hA3 hS3 hR3 hb3 c0 f0 l0;go_upto_region 4 with fail;rw [HW4.out];clear HW4;go_wp2_with fail;refine (HCUT.out _).mono ?_;rintro e w4 ⟨rfl,rfl⟩;have HSW:=aW (λ (W:World) (hb:Below w4.heap.size w4 W)=>show SRs W TT css3 l6/\RdF W TT A3 css3.flatten from ⟨RR.imp HS4.out.1 λ c x hc=>hc.bel hb,HS4.out.2.keep (af.of_below hb)⟩);have HVW:=aW (λ (W:World) (hb:Below w4.heap.size w4 W)=>HV2.out.1.bel (HH3.out.1.trans (hb.mono HH3.out.1.size)));obtain ⟨r,hr⟩:∃ r,eQ l6 id x2=r:=⟨_,rfl⟩
 have HMP:=aW (vy l6 css3 A3 n3 ca3 id x2 _ w4 (HG.out.keep HH3.out.1) HS4.out.1 HN3.out.1 HN3.out.2 HS4.out.2 HC6.out.1 HC6.out.2.1 (by have:=HC6.out.2.2;have:=HN3.out.1;omega) HID.out (HVW.out w4 (Below.refl _ _)) HV2.out.2);rw [hr] at HMP;have HR:=aW hr;clear hr;obtain ⟨c0,f0,l0⟩:=HH3.out.b0.rules;obtain ⟨c1,f1,l1⟩:=HH3.out.b1.rules;go_wp2_with fail;refine HMP.out.mono ?_;rintro e w5 ⟨A5,n5,ca5,css5,rfl,hl5,hnc5,hA5,hE5,hR5,hC5,hb5⟩;have HH5:=aW (HH3.out.keep hb5);have HEM:=aW (And.intro hl5 (And.intro hE5 (And.intro hR5 hC5)));have HB5:=aW hb5;have HB5:=aW hb5;have HOUT:=aW (show (∃ q,r=([],q)/\(q=332∨q=290∨q=140))∨r.2=0/\r.1.length<=4/\∀ y ∈ r.1,good y.1=true/\good y.2=true/\(aJ y.1).length<=90/\(bf y.2).length<=100 by rw [← HR.out];exact q7 _ _ _);have HRP:=aW (tP l6 css3 A3 n3 ca3 w5 (HSW.out w5 hb5).1 HN3.out.1 HN3.out.2 (HSW.out w5 hb5).2 HC6.out.1 (by have:=HC6.out.2.2;have:=HN3.out.1;omega));clear hl5 hnc5 hA5 hE5 hR5 hC5 hb5 c0 f0 l0 c1 f1 l1 HMP;obtain ⟨c0,f0,l0⟩:=HH5.out.b0.rules;obtain ⟨c1,f1,l1⟩:=HH5.out.b1.rules;obtain ⟨q1,hq1⟩:∃ q,jb l6=q:=⟨_,rfl⟩
 rw [hq1] at HRP;go_wp2_with fail;refine HRP.out.mono ?_;rintro e w6 ⟨rfl,hb6⟩;have HH6:=aW (HH5.out.keep hb6);have HB6:=aW (HB5.out.trans (hb6.mono HB5.out.size));have HZ6:=aW hb6;clear hb6 c0 f0 l0 c1 f1 l1 HRP;cases q1
 ·obtain rfl:r=([],332):=by rw [← HR.out,eQ,if_pos hq1]
  obtain rfl:0=n5:=HEM.out.1;go_wp2;go_ret;exact ⟨rfl,HH6.out.1⟩
 have HIV:=aW (yx id HID.out w6);obtain ⟨q2,hq2⟩:∃ q,gi id=q:=⟨_,rfl⟩
 rw [hq2] at HIV;go_wp2_with fail;refine HIV.out.mono ?_;rintro e w7 ⟨rfl,rfl⟩;cases q2
 ·obtain rfl:r=([],290):=by rw [← HR.out,eQ,if_neg (by rw [hq1];decide),if_pos hq2]
  obtain rfl:0=n5:=HEM.out.1;go_wp2;go_ret;exact ⟨rfl,HH6.out.1⟩
 have HRD:=aW (gz x2 _ TT w7 (HVW.out w7 HB6.out) HV2.out.2);obtain ⟨q3,hq3⟩:∃ q,good x2=q:=⟨_,rfl⟩
 rw [hq3] at HRD;obtain ⟨c1,f1,l1⟩:=HH6.out.b1.rules;go_wp2_with fail;refine HRD.out.mono ?_;rintro e w8 ⟨rfl,hb8⟩;have HH8:=aW (HH6.out.keep hb8);have HB8:=aW (HB6.out.trans (hb8.mono HB6.out.size));have HZ8:=aW (HZ6.out.trans (hb8.mono HZ6.out.size));clear hb8 c1 f1 l1 HRD HIV;cases q3
 ·obtain rfl:r=([],140):=by rw [← HR.out,eQ,if_neg (by rw [hq1];decide),if_neg (by rw [hq2];decide),if_pos hq3]
  obtain rfl:0=n5:=HEM.out.1;go_wp2;go_ret;exact ⟨rfl,HH8.out.1⟩
 have hrr:r=((goL (gP id x2) (0,[]) l6).2,0):=by rw [← HR.out,eQ,if_neg (by rw [hq1];decide),if_neg (by rw [hq2];decide),if_neg (by rw [hq3];decide)]
 have HM25:=aW (vL (rGo 12) l6 css3 A3 n3 ca3 id x2 _ w8 (HSW.out w8 HB8.out).1 HN3.out.1 HN3.out.2 (HSW.out w8 HB8.out).2 HC6.out.1 HC6.out.2.1 (by have:=HC6.out.2.2;have:=HN3.out.1;omega) HID.out (HVW.out w8 HB8.out) HV2.out.2 hq1 hq2 hq3);rw [show (goL (gP id x2) (0,[]) l6).2=r.1 by rw [hrr]] at HM25;have hr2:r.2=0:=by rw [hrr]
 have HO4:=aW (show r.1.length<=4/\∀ y ∈ r.1,good y.1=true/\good y.2=true by
  rcases HOUT.out with ⟨q,hq,h3⟩ | ⟨_,h4,h5⟩
  ·rw [hq];exact ⟨Nat.zero_le _,λ y hy=>by cases hy⟩
  ·exact ⟨h4,λ y hy=>⟨(h5 y hy).1,(h5 y hy).2.1⟩⟩)
 clear hrr HR HOUT hq1 hq2 hq3;obtain ⟨c0,f0,l0⟩:=HH8.out.b0.rules;obtain ⟨c1,f1,l1⟩:=HH8.out.b1.rules;go_wp2_with fail;refine HM25.out.mono ?_;rintro e w9 ⟨A9,n9,ca9,css9,rfl,hl9,hnc9,hA9,hE9,hR9,hC9,hb9⟩;have h59:Below w5.heap.size w5 w9:=HZ8.out.trans (hb9.mono HZ8.out.size);obtain rfl:n5=n9:=HEM.out.1.symm.trans hl9;have HSE:=aW (vM r.1 A5 A9 n5 ca5 ca9 css5 css9 w9 (RR.imp HEM.out.2.1 λ c x hc=>hc.keep (af.of_below h59)) (HEM.out.2.2.1.keep (af.of_below h59)) hE9 hR9 hl9 (by have:=HO4.out.1;omega) HO4.out.2 HEM.out.2.2.2);have HH9:=aW (HH8.out.keep hb9);clear hl9 hnc9 hA9 hE9 hR9 hC9 hb9 h59 c0 f0 l0 c1 f1 l1 HM25;go_wp2_with fail;refine HSE.out.mono ?_;rintro e w10 ⟨rfl,hb10⟩;have HH10:=aW (HH9.out.keep hb10);clear hb10 HSE;go_wp2;go_ret;exact ⟨rfl,HH10.out.1⟩
end
end Go.Proofs.YtgolomgmnanbpaaGreatDoor
