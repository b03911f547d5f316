import Derived.Test.YtgolomgmnanbpaaGreatDoorW21
import Derived.Test.YtgolomgmnanbpaaGreatDoorW16
import Derived.Test.YtgolomgmnanbpaaGreatDoorW01
set_option maxRecDepth 100000
set_option maxHeartbeats 16000000
namespace Go.Proofs.YtgolomgmnanbpaaGreatDoor
set_option linter.unusedVariables false
set_option linter.unusedSimpArgs false
open Go.RowKit
attribute [local go_sem] run_index_arr run_part_agg run_part_one run_field_agg
def TwoG (w:World) (t:TypeId) (cs cs':Array Value) (wr:World):Prop:=Blk wr w.heap.size t cs∧Blk wr (w.heap.size+1) t cs'∧Grw w wr
theorem TwoG.new (w:World) (t:TypeId) (cs cs':Array Value):TwoG w t cs cs' ((w.alloc (.cells cs t)).alloc (.cells cs' t)):=by
 refine ⟨(Blk.new w t cs).alloc _,?_,((Grw.refl w).alloc _).alloc _⟩;have:=Blk.new (w.alloc (.cells cs t)) t cs';rw [World.size_alloc] at this;exact this
theorem TwoG.keep {w wr wx:World} {t:TypeId} {cs cs':Array Value} (h:TwoG w t cs cs' wr) (hb:Grw wr wx):TwoG w t cs cs' wx:=⟨h.1.keep hb.1,h.2.1.keep hb.1,h.2.2.trans hb⟩
theorem TwoG.drew {w wr:World} {t:TypeId} {cs cs':Array Value} (h:TwoG w t cs cs' wr):TwoG w t cs cs' wr.drew:=⟨h.1.drew,h.2.1.drew,h.2.2.drew⟩
theorem u64_at {n nq p q:Int} (hn:iw n) (hq:iw nq) (h:nq≤n) (hp:IntKind.u64.wrap n=p) (hq2:IntKind.u64.wrap nq=q):IntKind.u64.wrap (p-q)=n-nq:=by
 unfold iw at hn hq;subst hp hq2;simp [IntKind.wrap,IntKind.bits,IntKind.signed];omega
theorem cCompare_all:∀ (N:Nat) (a b:JV),nodesJ a≤N→∀ (d d':Nat) (cs cs':List Value) (F F':Nat→Prop) (w:World),VR w F cs a→VR w F' cs' b→goodJ d a=true→goodJ d' b=true→Came a→Came b →
  Calls Tryz.prog 192 #[.agg cs.toArray,.agg cs'.toArray] w (CmpPost (cmpJ a b) w)
 | 0,v,_,h,_,_,_,_,_,_,_,_,_,_,_,_,_=>by have:=nodesJ_pos v;omega
 | N+1,.mk k n s kids keys,.mk kq nq sq kidsq keysq,hN,d,d',cs,cs',F,F',w,hv,hv',hR,hR',hC,hC'=>by
  have ih:=cCompare_all N;obtain ⟨hal,hdd,hrk⟩:=goodJ_out hR;obtain ⟨hal',hdd',hrk'⟩:=goodJ_out hR';unfold nodesJ at hN;obtain ⟨_,hin,hsl,hkl,hyl,_,hck⟩:=hC.out;obtain ⟨_,hinq,hsl',hkl',hyl',_,hck'⟩:=hC'.out;have hk6:=goodA_kind hal;have hk6':=goodA_kind hal';have HRA:=aW (fun W (h:Grw w W)=>cRank_any cs k n s kids keys F W (hv.keep (KeepF.of_below h.1)) hk6);have HRB:=aW (fun W (h:Grw w W)=>cRank_any cs' kq nq sq kidsq keysq F' W (hv'.keep (KeepF.of_below h.1)) hk6');obtain ⟨A,B,ca,cb,css,rfl,h1,h2,h3,h4,h5,h6,h7⟩:=hv.out;obtain ⟨Aq,Bq,caq,cbq,cssq,rfl,h1q,h2q,h3q,h4q,h5q,h6q,h7q⟩:=hv'.out;obtain ⟨ra,hra⟩:∃ ra,rankJ (.mk k n s kids keys)=ra:=⟨_,rfl⟩
  obtain ⟨rb,hrb⟩:∃ rb,rankJ (.mk kq nq sq kidsq keysq)=rb:=⟨_,rfl⟩
  have hrab:0≤ra∧ra≤6:=by have:=rank_of (n:=n) (s:=s) (kids:=kids) (keys:=keys) hk6;omega
  have hrbb:0≤rb∧rb≤6:=by have:=rank_of (n:=nq) (s:=sq) (kids:=kidsq) (keys:=keysq) hk6';omega
  have hcj:cmpJ (.mk k n s kids keys) (.mk kq nq sq kidsq keysq)=(if rankJ (.mk k n s kids keys)≠rankJ (.mk kq nq sq kidsq keysq) then sgnI (rankJ (.mk k n s kids keys)-rankJ (.mk kq nq sq kidsq keysq)) else if k=3 then cmpN n nq else if k=4 then cmpB s sq else cmpL (decide (k=6)) kids keys kidsq keysq):=by rw [cmpJ];rfl
  rw [hra,hrb] at hcj;rw [hra] at HRA;rw [hrb] at HRB;have HSG:=aW (fun n W=>cSign_any n W);have HKEY:=aW (show kq=k→k=6→keys.length=kids.length∧keysq.length=kidsq.length from fun e h=>⟨(keyed hal).1 h,(keyed hal').1 (e.trans h)⟩);have HKK:=aW (fun (hkk:kq=k) W (h:Grw w W)=>cKids_any (k:=k) (kq:=kq) (n:=n) (nq:=nq) (s:=s) (sq:=sq) (ca:=ca) (cb:=cb) (caq:=caq) (cbq:=cbq) W (h1.keep (KeepF.of_below h.1)) (h6.keep (KeepF.of_below h.1)) (h7.keep (KeepF.of_below h.1)) (h1q.keep (KeepF.of_below h.1)) (h6q.keep (KeepF.of_below h.1)) (h7q.keep (KeepF.of_below h.1)) h2 h3 h2q h3q hkl hyl hkl' hyl' (HKEY.out hkk)
   (fun x hx y hy W2 csx csy Fx Fy hvx hvy=>by
    obtain ⟨i,hi⟩:=List.mem_iff_getElem?.1 hx;obtain ⟨hn1,hn2⟩:=nodesL_at hi;exact ih x y (by omega) (d-1) (d'-1) csx csy Fx Fy W2 hvx hvy (goodL_iff.1 hrk x hx) (goodL_iff.1 hrk' y hy) (hck x hx) (hck' y hy)))
  have HCJ:=aW hcj;obtain ⟨R,hRR⟩:∃ R,cmpJ (.mk k n s kids keys) (.mk kq nq sq kidsq keysq)=R:=⟨_,rfl⟩
  rw [hRR] at HCJ ⊢;obtain ⟨nk,hnk⟩:∃ nk,kids.length=nk:=⟨_,rfl⟩
  obtain ⟨ny,hny⟩:∃ ny,keys.length=ny:=⟨_,rfl⟩
  obtain ⟨nkq,hnkq⟩:∃ nkq,kidsq.length=nkq:=⟨_,rfl⟩
  obtain ⟨nyq,hnyq⟩:∃ nyq,keysq.length=nyq:=⟨_,rfl⟩
  rw [hnk,hny] at HRA;rw [hnkq,hnyq] at HRB;rw [hnk,hny,hnkq,hnyq] at HKK ⊢;have HTB:=aW (TwoG.new w 25 #[.int .i64 k,.int .i64 n,.string ⟨s.toArray⟩,.slice A nk ca,.slice B ny cb] #[.int .i64 kq,.int .i64 nq,.string ⟨sq.toArray⟩,.slice Aq nkq caq,.slice Bq nyq cbq]);have HSAME:=aW (fun e=>rank_same hal hal' (hra.trans (Eq.trans e hrb.symm)));clear hv hv' hcj hRR hal hal' hrk hrk' hR hR' hC hC' hck hck' h1 h1q h2 h2q h3 h3q h4 h4q h5 h5q h6 h6q h7 h7q hra hrb hnk hny hnkq hnyq ih HKEY hdd hdd';have y1:w.heap.size≠w.heap.size+1:=by omega
  have y2:w.heap.size+1≠w.heap.size:=by omega
  by_cases hrr:ra=rb
  case neg =>
   have HR:=aW (show R=sgnI (ra-rb) by rw [HCJ.out,if_pos hrr]);have hd1:((ra-rb) == 0)=false:=by simp;omega
   have hd2:((ra-rb) != 0)=true:=by simp;omega
   obtain ⟨dd,hdd⟩:∃ dd,ra-rb=dd:=⟨_,rfl⟩
   rw [hdd] at HR hd1 hd2;have HDD:=aW hdd;have hdr:-6≤dd∧dd≤6:=by omega
   have hwd:IntKind.i64.wrap dd=dd:=by rw [IntKind.wrap_i64];omega
   go_enter Tryz.func192,Tryz.ntmps192;go_wp2;refine wp_region_held_drew (S:=fun w'=>TwoG w 25 #[.int .i64 k,.int .i64 n,.string ⟨s.toArray⟩,.slice A nk ca,.slice B ny cb] #[.int .i64 kq,.int .i64 nq,.string ⟨sq.toArray⟩,.slice Aq nkq caq,.slice Bq nyq cbq] w') (by kernel_rfl) (by exact HTB.out.drew) (fun hHeld=>?_);refine aY 0 6 (.agg #[.int .i64 k,.int .i64 n,.string ⟨s.toArray⟩,.slice A nk ca,.slice B ny cb]) rfl ?_ ?_
   ·intro W hSw;obtain ⟨⟨c1,f1,l1⟩,⟨c2,f2,l2⟩⟩:=And.intro hSw.1.rules hSw.2.1.rules;go_simp
   try simp only [pU]
   refine aY 2 8 (.agg #[.int .i64 kq,.int .i64 nq,.string ⟨sq.toArray⟩,.slice Aq nkq caq,.slice Bq nyq cbq]) rfl ?_ ?_
   ·intro W hSw;obtain ⟨⟨c1,f1,l1⟩,⟨c2,f2,l2⟩⟩:=And.intro hSw.1.rules hSw.2.1.rules;go_simp
   try simp only [pU]
   refine aV 1 7 rfl (fun K hK=>?_);go_simp;refine (HRA.out _ HTB.out.drew.2.2).mono ?_;rintro e w2 ⟨rfl,hb2⟩;have ht2:=HTB.out.drew.keep hb2;refine hK.out _ _ (ht2) (fun hHeld2=>?_);clear hK K hHeld
   try simp only [pU]
   refine aV 3 9 rfl (fun K hK=>?_);go_simp;refine (HRB.out _ ht2.2.2).mono ?_;rintro e w3 ⟨rfl,hb3⟩;have ht3:=ht2.keep hb3;refine hK.out _ _ (ht3) (fun hHeld2=>?_);clear hK K
   try simp only [pU]
   refine aY 4 10 (.int .i64 dd) rfl ?_ ?_
   ·intro W hSw;obtain ⟨⟨c1,f1,l1⟩,⟨c2,f2,l2⟩⟩:=And.intro hSw.1.rules hSw.2.1.rules;go_simp
   try simp only [pU]
   refine aY 5 5 (.int .i64 dd) rfl ?_ ?_
   ·intro W hSw;obtain ⟨⟨c1,f1,l1⟩,⟨c2,f2,l2⟩⟩:=And.intro hSw.1.rules hSw.2.1.rules;go_simp
   try simp only [pU]
   refine aX ?_;have HT3:=aW ht3;clear hb2 hb3 ht2 ht3;obtain ⟨c1,f1,l1⟩:=HT3.out.1.rules;obtain ⟨c2,f2,l2⟩:=HT3.out.2.1.rules;go_wp2_with fail;refine (HSG.out dd _).mono ?_;rintro e w4 ⟨rfl,rfl⟩;go_wp2;go_ret;exact ⟨by rw [HR.out];rfl,HT3.out.2.2⟩
  obtain ⟨ek,-,-⟩:=HSAME.out hrr;clear HSAME;subst hrr ek;have HCJ2:=aW (show R=if k=3 then cmpN n nq else if k=4 then cmpB s sq else cmpL (decide (k=6)) kids keys kidsq keysq by rw [HCJ.out,if_neg (show ¬ (ra≠ra) from fun h=>h rfl)]);clear HCJ;have hd0:ra-ra=0:=by omega
  have hwd0:IntKind.i64.wrap 0=0:=by decide
  by_cases k3:k=3
  ·subst k3;have HR:=aW (show R=cmpN n nq by rw [HCJ2.out,if_pos rfl]);by_cases hlt:n<nq
   ·have HRV:=aW (show R = -1 by rw [HR.out];unfold cmpN sgnI;rw [if_pos (by omega)]);go_enter Tryz.func192,Tryz.ntmps192;go_wp2;refine wp_region_held_drew (S:=fun w'=>TwoG w 25 #[.int .i64 3,.int .i64 n,.string ⟨s.toArray⟩,.slice A nk ca,.slice B ny cb] #[.int .i64 3,.int .i64 nq,.string ⟨sq.toArray⟩,.slice Aq nkq caq,.slice Bq nyq cbq] w') (by kernel_rfl) (by exact HTB.out.drew) (fun hHeld=>?_);refine aY 0 6 (.agg #[.int .i64 3,.int .i64 n,.string ⟨s.toArray⟩,.slice A nk ca,.slice B ny cb]) rfl ?_ ?_
    ·intro W hSw;obtain ⟨⟨c1,f1,l1⟩,⟨c2,f2,l2⟩⟩:=And.intro hSw.1.rules hSw.2.1.rules;go_simp
    try simp only [pU]
    refine aY 2 8 (.agg #[.int .i64 3,.int .i64 nq,.string ⟨sq.toArray⟩,.slice Aq nkq caq,.slice Bq nyq cbq]) rfl ?_ ?_
    ·intro W hSw;obtain ⟨⟨c1,f1,l1⟩,⟨c2,f2,l2⟩⟩:=And.intro hSw.1.rules hSw.2.1.rules;go_simp
    try simp only [pU]
    refine aV 1 7 rfl (fun K hK=>?_);go_simp;refine (HRA.out _ HTB.out.drew.2.2).mono ?_;rintro e w2 ⟨rfl,hb2⟩;have ht2:=HTB.out.drew.keep hb2;refine hK.out _ _ (ht2) (fun hHeld2=>?_);clear hK K hHeld
    try simp only [pU]
    refine aV 3 9 rfl (fun K hK=>?_);go_simp;refine (HRB.out _ ht2.2.2).mono ?_;rintro e w3 ⟨rfl,hb3⟩;have ht3:=ht2.keep hb3;refine hK.out _ _ (ht3) (fun hHeld2=>?_);clear hK K
    try simp only [pU]
    refine aY 4 10 (.int .i64 0) rfl ?_ ?_
    ·intro W hSw;obtain ⟨⟨c1,f1,l1⟩,⟨c2,f2,l2⟩⟩:=And.intro hSw.1.rules hSw.2.1.rules;go_simp
    try simp only [pU]
    refine aY 5 5 (.int .i64 0) rfl ?_ ?_
    ·intro W hSw;obtain ⟨⟨c1,f1,l1⟩,⟨c2,f2,l2⟩⟩:=And.intro hSw.1.rules hSw.2.1.rules;go_simp
    try simp only [pU]
    refine aX ?_;have HT3:=aW ht3;clear hb2 hb3 ht2 ht3;obtain ⟨c1,f1,l1⟩:=HT3.out.1.rules;obtain ⟨c2,f2,l2⟩:=HT3.out.2.1.rules;go_wp2;go_ret;exact ⟨by rw [HRV.out];rfl,HT3.out.2.2⟩
   ·obtain ⟨p,hp⟩:∃ p,IntKind.u64.wrap n=p:=⟨_,rfl⟩
    obtain ⟨q,hq⟩:∃ q,IntKind.u64.wrap nq=q:=⟨_,rfl⟩
    have hpq:=u64_at hin hinq (by omega) hp hq;obtain ⟨z,hz⟩:∃ z,n-nq=z:=⟨_,rfl⟩
    rw [hz] at hpq;have HRV:=aW (show R=sgnI z by rw [HR.out];unfold cmpN;rw [hz]);unfold iw at hin hinq;have hz0:z=0∨1≤z:=by omega
    clear hz;rcases hz0 with rfl | hz1
    ·go_enter Tryz.func192,Tryz.ntmps192;go_wp2;refine wp_region_held_drew (S:=fun w'=>TwoG w 25 #[.int .i64 3,.int .i64 n,.string ⟨s.toArray⟩,.slice A nk ca,.slice B ny cb] #[.int .i64 3,.int .i64 nq,.string ⟨sq.toArray⟩,.slice Aq nkq caq,.slice Bq nyq cbq] w') (by kernel_rfl) (by exact HTB.out.drew) (fun hHeld=>?_);refine aY 0 6 (.agg #[.int .i64 3,.int .i64 n,.string ⟨s.toArray⟩,.slice A nk ca,.slice B ny cb]) rfl ?_ ?_
     ·intro W hSw;obtain ⟨⟨c1,f1,l1⟩,⟨c2,f2,l2⟩⟩:=And.intro hSw.1.rules hSw.2.1.rules;go_simp
     try simp only [pU]
     refine aY 2 8 (.agg #[.int .i64 3,.int .i64 nq,.string ⟨sq.toArray⟩,.slice Aq nkq caq,.slice Bq nyq cbq]) rfl ?_ ?_
     ·intro W hSw;obtain ⟨⟨c1,f1,l1⟩,⟨c2,f2,l2⟩⟩:=And.intro hSw.1.rules hSw.2.1.rules;go_simp
     try simp only [pU]
     refine aV 1 7 rfl (fun K hK=>?_);go_simp;refine (HRA.out _ HTB.out.drew.2.2).mono ?_;rintro e w2 ⟨rfl,hb2⟩;have ht2:=HTB.out.drew.keep hb2;refine hK.out _ _ (ht2) (fun hHeld2=>?_);clear hK K hHeld
     try simp only [pU]
     refine aV 3 9 rfl (fun K hK=>?_);go_simp;refine (HRB.out _ ht2.2.2).mono ?_;rintro e w3 ⟨rfl,hb3⟩;have ht3:=ht2.keep hb3;refine hK.out _ _ (ht3) (fun hHeld2=>?_);clear hK K
     try simp only [pU]
     refine aY 4 10 (.int .i64 0) rfl ?_ ?_
     ·intro W hSw;obtain ⟨⟨c1,f1,l1⟩,⟨c2,f2,l2⟩⟩:=And.intro hSw.1.rules hSw.2.1.rules;go_simp
     try simp only [pU]
     refine aY 5 5 (.int .i64 0) rfl ?_ ?_
     ·intro W hSw;obtain ⟨⟨c1,f1,l1⟩,⟨c2,f2,l2⟩⟩:=And.intro hSw.1.rules hSw.2.1.rules;go_simp
     try simp only [pU]
     refine aX ?_;have HT3:=aW ht3;clear hb2 hb3 ht2 ht3;obtain ⟨c1,f1,l1⟩:=HT3.out.1.rules;obtain ⟨c2,f2,l2⟩:=HT3.out.2.1.rules;go_wp2_with fail;refine (HSG.out 0 _).mono ?_;rintro e w4 ⟨rfl,rfl⟩;go_wp2;go_ret;exact ⟨by rw [HRV.out];rfl,HT3.out.2.2⟩
    ·have HRW:=aW (show R=1 by rw [HRV.out];unfold sgnI;rw [if_neg (by omega),if_pos (by omega)]);by_cases hz2:z=1
     ·subst hz2;go_enter Tryz.func192,Tryz.ntmps192;go_wp2;refine wp_region_held_drew (S:=fun w'=>TwoG w 25 #[.int .i64 3,.int .i64 n,.string ⟨s.toArray⟩,.slice A nk ca,.slice B ny cb] #[.int .i64 3,.int .i64 nq,.string ⟨sq.toArray⟩,.slice Aq nkq caq,.slice Bq nyq cbq] w') (by kernel_rfl) (by exact HTB.out.drew) (fun hHeld=>?_);refine aY 0 6 (.agg #[.int .i64 3,.int .i64 n,.string ⟨s.toArray⟩,.slice A nk ca,.slice B ny cb]) rfl ?_ ?_
      ·intro W hSw;obtain ⟨⟨c1,f1,l1⟩,⟨c2,f2,l2⟩⟩:=And.intro hSw.1.rules hSw.2.1.rules;go_simp
      try simp only [pU]
      refine aY 2 8 (.agg #[.int .i64 3,.int .i64 nq,.string ⟨sq.toArray⟩,.slice Aq nkq caq,.slice Bq nyq cbq]) rfl ?_ ?_
      ·intro W hSw;obtain ⟨⟨c1,f1,l1⟩,⟨c2,f2,l2⟩⟩:=And.intro hSw.1.rules hSw.2.1.rules;go_simp
      try simp only [pU]
      refine aV 1 7 rfl (fun K hK=>?_);go_simp;refine (HRA.out _ HTB.out.drew.2.2).mono ?_;rintro e w2 ⟨rfl,hb2⟩;have ht2:=HTB.out.drew.keep hb2;refine hK.out _ _ (ht2) (fun hHeld2=>?_);clear hK K hHeld
      try simp only [pU]
      refine aV 3 9 rfl (fun K hK=>?_);go_simp;refine (HRB.out _ ht2.2.2).mono ?_;rintro e w3 ⟨rfl,hb3⟩;have ht3:=ht2.keep hb3;refine hK.out _ _ (ht3) (fun hHeld2=>?_);clear hK K
      try simp only [pU]
      refine aY 4 10 (.int .i64 0) rfl ?_ ?_
      ·intro W hSw;obtain ⟨⟨c1,f1,l1⟩,⟨c2,f2,l2⟩⟩:=And.intro hSw.1.rules hSw.2.1.rules;go_simp
      try simp only [pU]
      refine aY 5 5 (.int .i64 0) rfl ?_ ?_
      ·intro W hSw;obtain ⟨⟨c1,f1,l1⟩,⟨c2,f2,l2⟩⟩:=And.intro hSw.1.rules hSw.2.1.rules;go_simp
      try simp only [pU]
      refine aX ?_;have HT3:=aW ht3;clear hb2 hb3 ht2 ht3;obtain ⟨c1,f1,l1⟩:=HT3.out.1.rules;obtain ⟨c2,f2,l2⟩:=HT3.out.2.1.rules;go_wp2_with fail;refine (HSG.out 1 _).mono ?_;rintro e w4 ⟨rfl,rfl⟩;go_wp2;go_ret;exact ⟨by rw [HRW.out];rfl,HT3.out.2.2⟩
     ·have hz3:¬ z≤1:=by omega
      have hz4:1<z:=by omega
      go_enter Tryz.func192,Tryz.ntmps192;go_wp2;refine wp_region_held_drew (S:=fun w'=>TwoG w 25 #[.int .i64 3,.int .i64 n,.string ⟨s.toArray⟩,.slice A nk ca,.slice B ny cb] #[.int .i64 3,.int .i64 nq,.string ⟨sq.toArray⟩,.slice Aq nkq caq,.slice Bq nyq cbq] w') (by kernel_rfl) (by exact HTB.out.drew) (fun hHeld=>?_);refine aY 0 6 (.agg #[.int .i64 3,.int .i64 n,.string ⟨s.toArray⟩,.slice A nk ca,.slice B ny cb]) rfl ?_ ?_
      ·intro W hSw;obtain ⟨⟨c1,f1,l1⟩,⟨c2,f2,l2⟩⟩:=And.intro hSw.1.rules hSw.2.1.rules;go_simp
      try simp only [pU]
      refine aY 2 8 (.agg #[.int .i64 3,.int .i64 nq,.string ⟨sq.toArray⟩,.slice Aq nkq caq,.slice Bq nyq cbq]) rfl ?_ ?_
      ·intro W hSw;obtain ⟨⟨c1,f1,l1⟩,⟨c2,f2,l2⟩⟩:=And.intro hSw.1.rules hSw.2.1.rules;go_simp
      try simp only [pU]
      refine aV 1 7 rfl (fun K hK=>?_);go_simp;refine (HRA.out _ HTB.out.drew.2.2).mono ?_;rintro e w2 ⟨rfl,hb2⟩;have ht2:=HTB.out.drew.keep hb2;refine hK.out _ _ (ht2) (fun hHeld2=>?_);clear hK K hHeld
      try simp only [pU]
      refine aV 3 9 rfl (fun K hK=>?_);go_simp;refine (HRB.out _ ht2.2.2).mono ?_;rintro e w3 ⟨rfl,hb3⟩;have ht3:=ht2.keep hb3;refine hK.out _ _ (ht3) (fun hHeld2=>?_);clear hK K
      try simp only [pU]
      refine aY 4 10 (.int .i64 0) rfl ?_ ?_
      ·intro W hSw;obtain ⟨⟨c1,f1,l1⟩,⟨c2,f2,l2⟩⟩:=And.intro hSw.1.rules hSw.2.1.rules;go_simp
      try simp only [pU]
      refine aY 5 5 (.int .i64 0) rfl ?_ ?_
      ·intro W hSw;obtain ⟨⟨c1,f1,l1⟩,⟨c2,f2,l2⟩⟩:=And.intro hSw.1.rules hSw.2.1.rules;go_simp
      try simp only [pU]
      refine aX ?_;have HT3:=aW ht3;clear hb2 hb3 ht2 ht3;obtain ⟨c1,f1,l1⟩:=HT3.out.1.rules;obtain ⟨c2,f2,l2⟩:=HT3.out.2.1.rules;go_wp2_with fail;refine (HSG.out 1 _).mono ?_;rintro e w4 ⟨rfl,rfl⟩;go_wp2;go_ret;exact ⟨by rw [HRW.out];rfl,HT3.out.2.2⟩
  have k3b:(k == 3)=false:=by simp [k3]
  by_cases k4:k=4
  ·subst k4;have HR:=aW (show R=cmpB s sq by rw [HCJ2.out,if_neg k3,if_pos rfl]);have HCS:=aW (fun W=>cmpStr_any s sq W);go_enter Tryz.func192,Tryz.ntmps192;go_wp2;refine wp_region_held_drew (S:=fun w'=>TwoG w 25 #[.int .i64 4,.int .i64 n,.string ⟨s.toArray⟩,.slice A nk ca,.slice B ny cb] #[.int .i64 4,.int .i64 nq,.string ⟨sq.toArray⟩,.slice Aq nkq caq,.slice Bq nyq cbq] w') (by kernel_rfl) (by exact HTB.out.drew) (fun hHeld=>?_);refine aY 0 6 (.agg #[.int .i64 4,.int .i64 n,.string ⟨s.toArray⟩,.slice A nk ca,.slice B ny cb]) rfl ?_ ?_
   ·intro W hSw;obtain ⟨⟨c1,f1,l1⟩,⟨c2,f2,l2⟩⟩:=And.intro hSw.1.rules hSw.2.1.rules;go_simp
   try simp only [pU]
   refine aY 2 8 (.agg #[.int .i64 4,.int .i64 nq,.string ⟨sq.toArray⟩,.slice Aq nkq caq,.slice Bq nyq cbq]) rfl ?_ ?_
   ·intro W hSw;obtain ⟨⟨c1,f1,l1⟩,⟨c2,f2,l2⟩⟩:=And.intro hSw.1.rules hSw.2.1.rules;go_simp
   try simp only [pU]
   refine aV 1 7 rfl (fun K hK=>?_);go_simp;refine (HRA.out _ HTB.out.drew.2.2).mono ?_;rintro e w2 ⟨rfl,hb2⟩;have ht2:=HTB.out.drew.keep hb2;refine hK.out _ _ (ht2) (fun hHeld2=>?_);clear hK K hHeld
   try simp only [pU]
   refine aV 3 9 rfl (fun K hK=>?_);go_simp;refine (HRB.out _ ht2.2.2).mono ?_;rintro e w3 ⟨rfl,hb3⟩;have ht3:=ht2.keep hb3;refine hK.out _ _ (ht3) (fun hHeld2=>?_);clear hK K
   try simp only [pU]
   refine aY 4 10 (.int .i64 0) rfl ?_ ?_
   ·intro W hSw;obtain ⟨⟨c1,f1,l1⟩,⟨c2,f2,l2⟩⟩:=And.intro hSw.1.rules hSw.2.1.rules;go_simp
   try simp only [pU]
   refine aY 5 5 (.int .i64 0) rfl ?_ ?_
   ·intro W hSw;obtain ⟨⟨c1,f1,l1⟩,⟨c2,f2,l2⟩⟩:=And.intro hSw.1.rules hSw.2.1.rules;go_simp
   try simp only [pU]
   refine aX ?_;have HT3:=aW ht3;clear hb2 hb3 ht2 ht3;obtain ⟨c1,f1,l1⟩:=HT3.out.1.rules;obtain ⟨c2,f2,l2⟩:=HT3.out.2.1.rules;go_wp2_with fail;refine (HCS.out _).mono ?_;rintro e w4 ⟨rfl,rfl⟩;go_wp2;go_ret;exact ⟨by rw [HR.out];rfl,HT3.out.2.2⟩
  ·have k4b:(k == 4)=false:=by simp [k4]
   have HR:=aW (show R=cmpL (decide (k=6)) kids keys kidsq keysq by rw [HCJ2.out,if_neg k3,if_neg k4]);have HKC:=aW (HKK.out rfl);clear HKK;rw [← HR.out] at HKC;go_enter Tryz.func192,Tryz.ntmps192;go_wp2;refine wp_region_held_drew (S:=fun w'=>TwoG w 25 #[.int .i64 k,.int .i64 n,.string ⟨s.toArray⟩,.slice A nk ca,.slice B ny cb] #[.int .i64 k,.int .i64 nq,.string ⟨sq.toArray⟩,.slice Aq nkq caq,.slice Bq nyq cbq] w') (by kernel_rfl) (by exact HTB.out.drew) (fun hHeld=>?_);refine aY 0 6 (.agg #[.int .i64 k,.int .i64 n,.string ⟨s.toArray⟩,.slice A nk ca,.slice B ny cb]) rfl ?_ ?_
   ·intro W hSw;obtain ⟨⟨c1,f1,l1⟩,⟨c2,f2,l2⟩⟩:=And.intro hSw.1.rules hSw.2.1.rules;go_simp
   try simp only [pU]
   refine aY 2 8 (.agg #[.int .i64 k,.int .i64 nq,.string ⟨sq.toArray⟩,.slice Aq nkq caq,.slice Bq nyq cbq]) rfl ?_ ?_
   ·intro W hSw;obtain ⟨⟨c1,f1,l1⟩,⟨c2,f2,l2⟩⟩:=And.intro hSw.1.rules hSw.2.1.rules;go_simp
   try simp only [pU]
   refine aV 1 7 rfl (fun K hK=>?_);go_simp;refine (HRA.out _ HTB.out.drew.2.2).mono ?_;rintro e w2 ⟨rfl,hb2⟩;have ht2:=HTB.out.drew.keep hb2;refine hK.out _ _ (ht2) (fun hHeld2=>?_);clear hK K hHeld
   try simp only [pU]
   refine aV 3 9 rfl (fun K hK=>?_);go_simp;refine (HRB.out _ ht2.2.2).mono ?_;rintro e w3 ⟨rfl,hb3⟩;have ht3:=ht2.keep hb3;refine hK.out _ _ (ht3) (fun hHeld2=>?_);clear hK K
   try simp only [pU]
   refine aY 4 10 (.int .i64 0) rfl ?_ ?_
   ·intro W hSw;obtain ⟨⟨c1,f1,l1⟩,⟨c2,f2,l2⟩⟩:=And.intro hSw.1.rules hSw.2.1.rules;go_simp
   try simp only [pU]
   refine aY 5 5 (.int .i64 0) rfl ?_ ?_
   ·intro W hSw;obtain ⟨⟨c1,f1,l1⟩,⟨c2,f2,l2⟩⟩:=And.intro hSw.1.rules hSw.2.1.rules;go_simp
   try simp only [pU]
   refine aX ?_;have HT3:=aW ht3;clear hb2 hb3 ht2 ht3;obtain ⟨c1,f1,l1⟩:=HT3.out.1.rules;obtain ⟨c2,f2,l2⟩:=HT3.out.2.1.rules;go_wp2_with fail;refine (HKC.out _ HT3.out.2.2).mono ?_;rintro e w4 ⟨rfl,hb4⟩;have HG4:=aW (HT3.out.2.2.trans hb4);clear hb4;go_wp2;go_ret;exact ⟨rfl,HG4.out⟩
theorem cCompare_any (a b:JV) (cs cs':List Value) (F F':Nat→Prop) (w:World) (h:VR w F cs a) (h':VR w F' cs' b) (g:gd a) (g':gd b) (c:Came a) (c':Came b):Calls Tryz.prog 192 #[.agg cs.toArray,.agg cs'.toArray] w (CmpPost (cmpJ a b) w) :=
 cCompare_all _ a b (Nat.le_refl _) 8 8 cs cs' F F' w h h' g.j g'.j c c'
end Go.Proofs.YtgolomgmnanbpaaGreatDoor
