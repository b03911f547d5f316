import Derived.Test.YtgmnmnnoahdjnaaGreatDoorJ06
set_option maxRecDepth 100000
set_option maxHeartbeats 16000000
set_option linter.unusedVariables false
set_option linter.unusedSimpArgs false
namespace Go.Proofs.YtgmnmnnoahdjnaaGreatDoor
section
open Go.RowKit
attribute [local go_sem] aa ac ae ab
theorem zy {P:Program} {md:Region.Mode} {ops:Array Oper} {Q:Exit→Act→World→Prop} {S:World→Prop} {fuel:Nat} {listed:Array Bool} {act:Nat→Option Addr→Nat→Nat→Value→Act} {R:World→Nat→Option Addr→Nat→Prop} {goal:Prop}
  (hleaf:∀ Z b A c r v,R Z b A c→wpAnyH P md ops Q S fuel listed (act b A c r v) Z) (h:(∀ Z b A c r v,R Z b A c→wpAnyH P md ops Q S fuel listed (act b A c r v) Z)→goal):goal:=h hleaf
theorem zr {a b:List SJ} (ha:bg a) (hb:bg b):bg (a++b):=bZ.2 fun x hx=>by
 rcases List.mem_append.1 hx with hx | hx
 ·exact bZ.1 ha x hx
 ·exact bZ.1 hb x hx
set_option maxHeartbeats 32000000 in
theorem zo (A0:Option Addr) (ca0:Nat) (p0:List SJ) (A1:Option Addr) (ca1:Nat) (q0:List SJ) (w:World) (hG:GOE w) (hS0:wY w A0 ca0 p0) (hL0:∀ v ∈ p0,gZ 4194304 v) (hn0:p0.length≤4194304) (hm0:cJ p0≤1048576)
  (hS1:wY w A1 ca1 q0) (hL1:∀ v ∈ q0,gZ 4194304 v) (hn1:q0.length≤4194304) (hm1:cJ q0≤1048576) :
  Calls Tryz.prog 7 #[.agg #[.slice A0 p0.length ca0],.agg #[.slice A1 q0.length ca1]] w (fun e w'=>e=.returned (.bool true)∧Below w.heap.size w w'):=by
 obtain ⟨n0,hln0⟩:∃ n,p0.length=n:=⟨_,rfl⟩
 obtain ⟨n1,hln1⟩:∃ n,q0.length=n:=⟨_,rfl⟩
 have HF0:=aW (fun (W:World) (h:Below w.heap.size w W)=>zx hS0 hL0 hn0 hln0 h);have HF1:=aW (fun (W:World) (h:Below w.heap.size w W)=>zx hS1 hL1 hn1 hln1 h);have hcp:=wQ.of hL0 hm0;have hcq:=wQ.of hL1 hm1;rw [hln0,hln1];obtain ⟨p,hp⟩:∃ p,dq 14 p0=p:=⟨_,rfl⟩
 obtain ⟨q,hq⟩:∃ q,dq 14 q0=q:=⟨_,rfl⟩
 rw [hp] at HF0 hcp;rw [hq] at HF1 hcq;have HPQ:=aW (And.intro hcp hcq);have HG:=aW (fun (W:World) (h:Below w.heap.size w W)=>hG.keep h);have HWK:=aW (fun (W:World) (hb:Below w.heap.size w W)=>vQ W (hG.keep hb));have HH0:=aW (((aL.nil w).push 24 #[.slice A0 n0 ca0] (g:=w.heap.size) rfl).push 24 #[.slice A1 n1 ca1] (g:=w.heap.size+1) (by simp));unfold vl at HF0 HF1;clear hG hS0 hL0 hn0 hm0 hS1 hL1 hn1 hm1 hln0 hln1 hp hq hcp hcq;go_enter Tryz.func7,Tryz.ntmps7;go_upto_region 3 with (go_at_call 14;refine (HWK.out _ HH0.out.1).mono ?_;rintro e w1 ⟨rfl,hb1⟩);have HH1:=aW (HH0.out.keep hb1);clear hb1 HH0;go_cut [5,6] (fun s5 s6 wx => ∃ (b7 b8:Nat) (A7:Option Addr) (n7 ca7:Nat) (A8:Option Addr) (n8 ca8:Nat) (W:World),W=wx∧s5=.pointer (some ⟨b7,0,none⟩)∧s6=.pointer (some ⟨b8,0,none⟩) ∧
  Hid (RFv w W #[.slice A0 n0 ca0] #[.slice A1 n1 ca1])∧Hid (NBv w W b7 (.slice A7 n7 ca7))∧Hid (NBv w W b8 (.slice A8 n8 ca8))∧Hid (jM W A7 n7 ca7 p)∧Hid (jM W A8 n8 ca8 q))
 case first =>
  apply zz (R:=fun Z b7 b8 A7 n7 ca7 A8 n8 ca8 => ∃ (css7 css8:List (List Value)),Hid (RFv w Z #[.slice A0 n0 ca0] #[.slice A1 n1 ca1])∧Hid (NBv w Z b7 (.slice none 0 0))∧Hid (NBv w Z b8 (.slice none 0 0))∧Hid (RWv Z (GRv [b7,b8]) A7 n7 ca7 css7 p)∧Hid (RWv Z (GRv [b7,b8]) A8 n8 ca8 css8 q)∧b7≠b8)
  case h =>
   intro HL;refine wp_region_held_drew (S:=fun W'=>Blk W' w.heap.size 24 #[.slice A0 n0 ca0]∧Blk W' (w.heap.size+1) 24 #[.slice A1 n1 ca1]) (by kernel_rfl) (by exact ⟨HH1.out.b1.drew,HH1.out.b0.drew⟩) (fun hHeld=>?_);refine cq (fun Z0 hw0=>?_);have HB:=aW (show RFv w Z0 #[.slice A0 n0 ca0] #[.slice A1 n1 ca1] by rw [hw0];exact ⟨HH1.out.1.drew,HH1.out.b1.drew,HH1.out.b0.drew⟩);clear hw0 hHeld;have hHeld:=And.intro HB.out.p HB.out.q;refine aY 0 19 (.agg #[.slice A0 n0 ca0]) rfl ?_ ?_
   ·intro W hSw;obtain ⟨c8,f8,l8⟩:=hSw.1.rules;go_simp
   refine aY 2 21 (.agg #[.slice A1 n1 ca1]) rfl ?_ ?_
   ·intro W hSw;obtain ⟨c8,f8,l8⟩:=hSw.2.rules;go_simp
   refine wpAnyH_ready (rs:=[1,4,5]) (by kernel_rfl) (by simp) ?_;refine AllReadyH.cons (o:=⟨some 20,_,_,_,_,_⟩) rfl (fun K hK=>?_) (AllReadyH.cons (o:=⟨some 5,_,_,_,_,_⟩) rfl (fun K hK=>?_) (AllReadyH.cons (o:=⟨some 6,_,_,_,_,_⟩) rfl (fun K hK=>?_) AllReadyH.nil))
   ·go_simp;refine (HF0.out _ HB.out.1).mono ?_;rintro e Z1 ⟨A7,n7,ca7,css7,rfl,h1,h2,h3,h4,h5,hb⟩;have HR7:=aW (HB.out.res (L:=[]) (fun b hb=>by cases hb) h1 h2 h3 h4 h5);clear h1 h2 h3 h4 h5;replace HB:=aW (HB.out.bel hb);clear hb;refine hK.out _ _ (by exact ⟨HB.out.p,HB.out.q⟩) (fun hHeld2=>?_);clear hK K hHeld;have hHeld:=hHeld2;clear hHeld2
    try simp only [pU]
    refine wpAnyH_ready (rs:=[3,4,5]) (by kernel_rfl) (by simp) ?_;refine AllReadyH.cons (o:=⟨some 22,_,_,_,_,_⟩) rfl (fun K hK=>?_) (AllReadyH.cons (o:=⟨some 5,_,_,_,_,_⟩) rfl (fun K hK=>?_) (AllReadyH.cons (o:=⟨some 6,_,_,_,_,_⟩) rfl (fun K hK=>?_) AllReadyH.nil))
    ·go_simp;refine (HF1.out _ HB.out.1).mono ?_;rintro e Z2 ⟨A8,n8,ca8,css8,rfl,h1,h2,h3,h4,h5,hb⟩;have HR8:=aW (HB.out.res (L:=[]) (fun b hb=>by cases hb) h1 h2 h3 h4 h5);clear h1 h2 h3 h4 h5;replace HB:=aW (HB.out.bel hb);replace HR7:=aW (HR7.out.bel hb);clear hb;refine hK.out _ _ (by exact ⟨HB.out.p,HB.out.q⟩) (fun hHeld2=>?_);clear hK K hHeld;have hHeld:=hHeld2;clear hHeld2
     try simp only [pU]
     refine wpAnyH_ready (rs:=[4,5]) (by kernel_rfl) (by simp) ?_;refine AllReadyH.cons (o:=⟨some 5,_,_,_,_,_⟩) rfl (fun K hK=>?_) (AllReadyH.cons (o:=⟨some 6,_,_,_,_,_⟩) rfl (fun K hK=>?_) AllReadyH.nil)
     ·go_simp;have HNn:=aW (HB.out.new (Y:=Z2.alloc (.cells #[.slice none 0 0] 24)) rfl);have hb:=(Below.refl _ Z2).alloc (Nat.le_refl _) (.cells #[.slice none 0 0] 24);replace HR7:=aW ((HR7.out.add (b:=Z2.heap.size) (Nat.le_refl _)).bel hb);replace HR8:=aW ((HR8.out.add (b:=Z2.heap.size) (Nat.le_refl _)).bel hb);replace HB:=aW (HB.out.bel hb);clear hb;refine hK.out _ _ (by exact ⟨HB.out.p,HB.out.q⟩) (fun hHeld2=>?_);clear hK K hHeld;have hHeld:=hHeld2;clear hHeld2
      try simp only [pU]
      refine cq (fun Y3 hY=>?_);obtain ⟨b7,hbb⟩:∃ b,Z2.heap.size=b:=⟨_,rfl⟩
      rw [hbb];rw [hbb] at HNn;rw [← hY] at HNn HB;rw [← hY,hbb] at HR7;rw [← hY,hbb] at HR8;have HN7:=HNn;replace hHeld:=And.intro HB.out.p HB.out.q;clear hY hbb HNn;refine aV 5 6 rfl (fun K hK=>?_);go_simp;have HNn:=aW (HB.out.new (Y:=Y3.alloc (.cells #[.slice none 0 0] 24)) rfl);have hb:=(Below.refl _ Y3).alloc (Nat.le_refl _) (.cells #[.slice none 0 0] 24);replace HR7:=aW ((HR7.out.add (b:=Y3.heap.size) (Nat.le_refl _)).bel hb);replace HR8:=aW ((HR8.out.add (b:=Y3.heap.size) (Nat.le_refl _)).bel hb);have hneb7:=Nat.ne_of_lt HN7.out.2.lt;replace HN7:=aW (HN7.out.bel hb);replace HB:=aW (HB.out.bel hb);clear hb;refine hK.out _ _ (by exact ⟨HB.out.p,HB.out.q⟩) (fun hHeld2=>?_);clear hK K hHeld;have hHeld:=hHeld2;clear hHeld2
      try simp only [pU]
      refine cq (fun Y4 hY=>?_);obtain ⟨b8,hbb⟩:∃ b,Y3.heap.size=b:=⟨_,rfl⟩
      rw [hbb];rw [hbb] at HNn;rw [← hY] at HNn HB;rw [← hY,hbb] at HR7;rw [← hY,hbb] at HR8;rw [← hY] at HN7;rw [hbb] at hneb7;have HN8:=HNn;replace hHeld:=And.intro HB.out.p HB.out.q;clear hY hbb HNn;refine bz (l':=#[true,true,true,true,true,true,false,false]) (by kernel_rfl) ?_;exact HL _ _ _ _ _ _ _ _ _ ⟨css7,css8,HB,HN7,HN8,aW (HR7.out.two (b7:=b7) (b8:=b8) (by simp)),aW (HR8.out.two (b7:=b7) (b8:=b8) (by simp)),by have:=hneb7;omega⟩
     ·go_simp;have HNn:=aW (HB.out.new (Y:=Z2.alloc (.cells #[.slice none 0 0] 24)) rfl);have hb:=(Below.refl _ Z2).alloc (Nat.le_refl _) (.cells #[.slice none 0 0] 24);replace HR7:=aW ((HR7.out.add (b:=Z2.heap.size) (Nat.le_refl _)).bel hb);replace HR8:=aW ((HR8.out.add (b:=Z2.heap.size) (Nat.le_refl _)).bel hb);replace HB:=aW (HB.out.bel hb);clear hb;refine hK.out _ _ (by exact ⟨HB.out.p,HB.out.q⟩) (fun hHeld2=>?_);clear hK K hHeld;have hHeld:=hHeld2;clear hHeld2
      try simp only [pU]
      refine cq (fun Y5 hY=>?_);obtain ⟨b8,hbb⟩:∃ b,Z2.heap.size=b:=⟨_,rfl⟩
      rw [hbb];rw [hbb] at HNn;rw [← hY] at HNn HB;rw [← hY,hbb] at HR7;rw [← hY,hbb] at HR8;have HN8:=HNn;replace hHeld:=And.intro HB.out.p HB.out.q;clear hY hbb HNn;refine aV 4 5 rfl (fun K hK=>?_);go_simp;have HNn:=aW (HB.out.new (Y:=Y5.alloc (.cells #[.slice none 0 0] 24)) rfl);have hb:=(Below.refl _ Y5).alloc (Nat.le_refl _) (.cells #[.slice none 0 0] 24);replace HR7:=aW ((HR7.out.add (b:=Y5.heap.size) (Nat.le_refl _)).bel hb);replace HR8:=aW ((HR8.out.add (b:=Y5.heap.size) (Nat.le_refl _)).bel hb);have hneb8:=Nat.ne_of_lt HN8.out.2.lt;replace HN8:=aW (HN8.out.bel hb);replace HB:=aW (HB.out.bel hb);clear hb;refine hK.out _ _ (by exact ⟨HB.out.p,HB.out.q⟩) (fun hHeld2=>?_);clear hK K hHeld;have hHeld:=hHeld2;clear hHeld2
      try simp only [pU]
      refine cq (fun Y6 hY=>?_);obtain ⟨b7,hbb⟩:∃ b,Y5.heap.size=b:=⟨_,rfl⟩
      rw [hbb];rw [hbb] at HNn;rw [← hY] at HNn HB;rw [← hY,hbb] at HR7;rw [← hY,hbb] at HR8;rw [← hY] at HN8;rw [hbb] at hneb8;have HN7:=HNn;replace hHeld:=And.intro HB.out.p HB.out.q;clear hY hbb HNn;refine bz (l':=#[true,true,true,true,true,true,false,false]) (by kernel_rfl) ?_;exact HL _ _ _ _ _ _ _ _ _ ⟨css7,css8,HB,HN7,HN8,aW (HR7.out.two (b7:=b7) (b8:=b8) (by simp)),aW (HR8.out.two (b7:=b7) (b8:=b8) (by simp)),by have:=hneb8;omega⟩
    ·go_simp;have HNn:=aW (HB.out.new (Y:=Z1.alloc (.cells #[.slice none 0 0] 24)) rfl);have hb:=(Below.refl _ Z1).alloc (Nat.le_refl _) (.cells #[.slice none 0 0] 24);replace HR7:=aW ((HR7.out.add (b:=Z1.heap.size) (Nat.le_refl _)).bel hb);replace HB:=aW (HB.out.bel hb);clear hb;refine hK.out _ _ (by exact ⟨HB.out.p,HB.out.q⟩) (fun hHeld2=>?_);clear hK K hHeld;have hHeld:=hHeld2;clear hHeld2
     try simp only [pU]
     refine cq (fun Y7 hY=>?_);obtain ⟨b7,hbb⟩:∃ b,Z1.heap.size=b:=⟨_,rfl⟩
     rw [hbb];rw [hbb] at HNn;rw [← hY] at HNn HB;rw [← hY,hbb] at HR7;have HN7:=HNn;replace hHeld:=And.intro HB.out.p HB.out.q;clear hY hbb HNn;refine wpAnyH_ready (rs:=[3,5]) (by kernel_rfl) (by simp) ?_;refine AllReadyH.cons (o:=⟨some 22,_,_,_,_,_⟩) rfl (fun K hK=>?_) (AllReadyH.cons (o:=⟨some 6,_,_,_,_,_⟩) rfl (fun K hK=>?_) AllReadyH.nil)
     ·go_simp;refine (HF1.out _ HB.out.1).mono ?_;rintro e Z8 ⟨A8,n8,ca8,css8,rfl,h1,h2,h3,h4,h5,hb⟩;have HR8:=aW (HB.out.res (L:=[b7]) (fun b hb=>by obtain rfl:=List.mem_singleton.1 hb;exact ⟨HN7.out.1,HN7.out.2.lt⟩) h1 h2 h3 h4 h5);clear h1 h2 h3 h4 h5;replace HB:=aW (HB.out.bel hb);replace HN7:=aW (HN7.out.bel hb);replace HR7:=aW (HR7.out.bel hb);clear hb;refine hK.out _ _ (by exact ⟨HB.out.p,HB.out.q⟩) (fun hHeld2=>?_);clear hK K hHeld;have hHeld:=hHeld2;clear hHeld2
      try simp only [pU]
      refine aV 5 6 rfl (fun K hK=>?_);go_simp;have HNn:=aW (HB.out.new (Y:=Z8.alloc (.cells #[.slice none 0 0] 24)) rfl);have hb:=(Below.refl _ Z8).alloc (Nat.le_refl _) (.cells #[.slice none 0 0] 24);replace HR7:=aW ((HR7.out.add (b:=Z8.heap.size) (Nat.le_refl _)).bel hb);replace HR8:=aW ((HR8.out.add (b:=Z8.heap.size) (Nat.le_refl _)).bel hb);have hneb7:=Nat.ne_of_lt HN7.out.2.lt;replace HN7:=aW (HN7.out.bel hb);replace HB:=aW (HB.out.bel hb);clear hb;refine hK.out _ _ (by exact ⟨HB.out.p,HB.out.q⟩) (fun hHeld2=>?_);clear hK K hHeld;have hHeld:=hHeld2;clear hHeld2
      try simp only [pU]
      refine cq (fun Y9 hY=>?_);obtain ⟨b8,hbb⟩:∃ b,Z8.heap.size=b:=⟨_,rfl⟩
      rw [hbb];rw [hbb] at HNn;rw [← hY] at HNn HB;rw [← hY,hbb] at HR7;rw [← hY,hbb] at HR8;rw [← hY] at HN7;rw [hbb] at hneb7;have HN8:=HNn;replace hHeld:=And.intro HB.out.p HB.out.q;clear hY hbb HNn;refine bz (l':=#[true,true,true,true,true,true,false,false]) (by kernel_rfl) ?_;exact HL _ _ _ _ _ _ _ _ _ ⟨css7,css8,HB,HN7,HN8,aW (HR7.out.two (b7:=b7) (b8:=b8) (by simp)),aW (HR8.out.two (b7:=b7) (b8:=b8) (by simp)),by have:=hneb7;omega⟩
     ·go_simp;have HNn:=aW (HB.out.new (Y:=Y7.alloc (.cells #[.slice none 0 0] 24)) rfl);have hb:=(Below.refl _ Y7).alloc (Nat.le_refl _) (.cells #[.slice none 0 0] 24);replace HR7:=aW ((HR7.out.add (b:=Y7.heap.size) (Nat.le_refl _)).bel hb);have hneb7:=Nat.ne_of_lt HN7.out.2.lt;replace HN7:=aW (HN7.out.bel hb);replace HB:=aW (HB.out.bel hb);clear hb;refine hK.out _ _ (by exact ⟨HB.out.p,HB.out.q⟩) (fun hHeld2=>?_);clear hK K hHeld;have hHeld:=hHeld2;clear hHeld2
      try simp only [pU]
      refine cq (fun Y10 hY=>?_);obtain ⟨b8,hbb⟩:∃ b,Y7.heap.size=b:=⟨_,rfl⟩
      rw [hbb];rw [hbb] at HNn;rw [← hY] at HNn HB;rw [← hY,hbb] at HR7;rw [← hY] at HN7;rw [hbb] at hneb7;have HN8:=HNn;replace hHeld:=And.intro HB.out.p HB.out.q;clear hY hbb HNn;refine aV 3 22 rfl (fun K hK=>?_);go_simp;refine (HF1.out _ HB.out.1).mono ?_;rintro e Z11 ⟨A8,n8,ca8,css8,rfl,h1,h2,h3,h4,h5,hb⟩;have HR8:=aW (HB.out.res (L:=[b8,b7]) (fun b hb=>by rcases List.mem_cons.1 hb with rfl | hb;exact ⟨HN8.out.1,HN8.out.2.lt⟩;obtain rfl:=List.mem_singleton.1 hb;exact ⟨HN7.out.1,HN7.out.2.lt⟩) h1 h2 h3 h4 h5);clear h1 h2 h3 h4 h5;replace HB:=aW (HB.out.bel hb);replace HN8:=aW (HN8.out.bel hb);replace HN7:=aW (HN7.out.bel hb);replace HR7:=aW (HR7.out.bel hb);clear hb;refine hK.out _ _ (by exact ⟨HB.out.p,HB.out.q⟩) (fun hHeld2=>?_);clear hK K hHeld;have hHeld:=hHeld2;clear hHeld2
      try simp only [pU]
      refine bz (l':=#[true,true,true,true,true,true,false,false]) (by kernel_rfl) ?_;exact HL _ _ _ _ _ _ _ _ _ ⟨css7,css8,HB,HN7,HN8,aW (HR7.out.two (b7:=b7) (b8:=b8) (by simp)),aW (HR8.out.two (b7:=b7) (b8:=b8) (by simp)),by have:=hneb7;omega⟩
    ·go_simp;have HNn:=aW (HB.out.new (Y:=Z1.alloc (.cells #[.slice none 0 0] 24)) rfl);have hb:=(Below.refl _ Z1).alloc (Nat.le_refl _) (.cells #[.slice none 0 0] 24);replace HR7:=aW ((HR7.out.add (b:=Z1.heap.size) (Nat.le_refl _)).bel hb);replace HB:=aW (HB.out.bel hb);clear hb;refine hK.out _ _ (by exact ⟨HB.out.p,HB.out.q⟩) (fun hHeld2=>?_);clear hK K hHeld;have hHeld:=hHeld2;clear hHeld2
     try simp only [pU]
     refine cq (fun Y12 hY=>?_);obtain ⟨b8,hbb⟩:∃ b,Z1.heap.size=b:=⟨_,rfl⟩
     rw [hbb];rw [hbb] at HNn;rw [← hY] at HNn HB;rw [← hY,hbb] at HR7;have HN8:=HNn;replace hHeld:=And.intro HB.out.p HB.out.q;clear hY hbb HNn;refine wpAnyH_ready (rs:=[3,4]) (by kernel_rfl) (by simp) ?_;refine AllReadyH.cons (o:=⟨some 22,_,_,_,_,_⟩) rfl (fun K hK=>?_) (AllReadyH.cons (o:=⟨some 5,_,_,_,_,_⟩) rfl (fun K hK=>?_) AllReadyH.nil)
     ·go_simp;refine (HF1.out _ HB.out.1).mono ?_;rintro e Z13 ⟨A8,n8,ca8,css8,rfl,h1,h2,h3,h4,h5,hb⟩;have HR8:=aW (HB.out.res (L:=[b8]) (fun b hb=>by obtain rfl:=List.mem_singleton.1 hb;exact ⟨HN8.out.1,HN8.out.2.lt⟩) h1 h2 h3 h4 h5);clear h1 h2 h3 h4 h5;replace HB:=aW (HB.out.bel hb);replace HN8:=aW (HN8.out.bel hb);replace HR7:=aW (HR7.out.bel hb);clear hb;refine hK.out _ _ (by exact ⟨HB.out.p,HB.out.q⟩) (fun hHeld2=>?_);clear hK K hHeld;have hHeld:=hHeld2;clear hHeld2
      try simp only [pU]
      refine aV 4 5 rfl (fun K hK=>?_);go_simp;have HNn:=aW (HB.out.new (Y:=Z13.alloc (.cells #[.slice none 0 0] 24)) rfl);have hb:=(Below.refl _ Z13).alloc (Nat.le_refl _) (.cells #[.slice none 0 0] 24);replace HR7:=aW ((HR7.out.add (b:=Z13.heap.size) (Nat.le_refl _)).bel hb);replace HR8:=aW ((HR8.out.add (b:=Z13.heap.size) (Nat.le_refl _)).bel hb);have hneb8:=Nat.ne_of_lt HN8.out.2.lt;replace HN8:=aW (HN8.out.bel hb);replace HB:=aW (HB.out.bel hb);clear hb;refine hK.out _ _ (by exact ⟨HB.out.p,HB.out.q⟩) (fun hHeld2=>?_);clear hK K hHeld;have hHeld:=hHeld2;clear hHeld2
      try simp only [pU]
      refine cq (fun Y14 hY=>?_);obtain ⟨b7,hbb⟩:∃ b,Z13.heap.size=b:=⟨_,rfl⟩
      rw [hbb];rw [hbb] at HNn;rw [← hY] at HNn HB;rw [← hY,hbb] at HR7;rw [← hY,hbb] at HR8;rw [← hY] at HN8;rw [hbb] at hneb8;have HN7:=HNn;replace hHeld:=And.intro HB.out.p HB.out.q;clear hY hbb HNn;refine bz (l':=#[true,true,true,true,true,true,false,false]) (by kernel_rfl) ?_;exact HL _ _ _ _ _ _ _ _ _ ⟨css7,css8,HB,HN7,HN8,aW (HR7.out.two (b7:=b7) (b8:=b8) (by simp)),aW (HR8.out.two (b7:=b7) (b8:=b8) (by simp)),by have:=hneb8;omega⟩
     ·go_simp;have HNn:=aW (HB.out.new (Y:=Y12.alloc (.cells #[.slice none 0 0] 24)) rfl);have hb:=(Below.refl _ Y12).alloc (Nat.le_refl _) (.cells #[.slice none 0 0] 24);replace HR7:=aW ((HR7.out.add (b:=Y12.heap.size) (Nat.le_refl _)).bel hb);have hneb8:=Nat.ne_of_lt HN8.out.2.lt;replace HN8:=aW (HN8.out.bel hb);replace HB:=aW (HB.out.bel hb);clear hb;refine hK.out _ _ (by exact ⟨HB.out.p,HB.out.q⟩) (fun hHeld2=>?_);clear hK K hHeld;have hHeld:=hHeld2;clear hHeld2
      try simp only [pU]
      refine cq (fun Y15 hY=>?_);obtain ⟨b7,hbb⟩:∃ b,Y12.heap.size=b:=⟨_,rfl⟩
      rw [hbb];rw [hbb] at HNn;rw [← hY] at HNn HB;rw [← hY,hbb] at HR7;rw [← hY] at HN8;rw [hbb] at hneb8;have HN7:=HNn;replace hHeld:=And.intro HB.out.p HB.out.q;clear hY hbb HNn;refine aV 3 22 rfl (fun K hK=>?_);go_simp;refine (HF1.out _ HB.out.1).mono ?_;rintro e Z16 ⟨A8,n8,ca8,css8,rfl,h1,h2,h3,h4,h5,hb⟩;have HR8:=aW (HB.out.res (L:=[b7,b8]) (fun b hb=>by rcases List.mem_cons.1 hb with rfl | hb;exact ⟨HN7.out.1,HN7.out.2.lt⟩;obtain rfl:=List.mem_singleton.1 hb;exact ⟨HN8.out.1,HN8.out.2.lt⟩) h1 h2 h3 h4 h5);clear h1 h2 h3 h4 h5;replace HB:=aW (HB.out.bel hb);replace HN7:=aW (HN7.out.bel hb);replace HN8:=aW (HN8.out.bel hb);replace HR7:=aW (HR7.out.bel hb);clear hb;refine hK.out _ _ (by exact ⟨HB.out.p,HB.out.q⟩) (fun hHeld2=>?_);clear hK K hHeld;have hHeld:=hHeld2;clear hHeld2
      try simp only [pU]
      refine bz (l':=#[true,true,true,true,true,true,false,false]) (by kernel_rfl) ?_;exact HL _ _ _ _ _ _ _ _ _ ⟨css7,css8,HB,HN7,HN8,aW (HR7.out.two (b7:=b7) (b8:=b8) (by simp)),aW (HR8.out.two (b7:=b7) (b8:=b8) (by simp)),by have:=hneb8;omega⟩
   ·go_simp;have HNn:=aW (HB.out.new (Y:=Z0.alloc (.cells #[.slice none 0 0] 24)) rfl);have hb:=(Below.refl _ Z0).alloc (Nat.le_refl _) (.cells #[.slice none 0 0] 24);replace HB:=aW (HB.out.bel hb);clear hb;refine hK.out _ _ (by exact ⟨HB.out.p,HB.out.q⟩) (fun hHeld2=>?_);clear hK K hHeld;have hHeld:=hHeld2;clear hHeld2
    try simp only [pU]
    refine cq (fun Y17 hY=>?_);obtain ⟨b7,hbb⟩:∃ b,Z0.heap.size=b:=⟨_,rfl⟩
    rw [hbb];rw [hbb] at HNn;rw [← hY] at HNn HB;have HN7:=HNn;replace hHeld:=And.intro HB.out.p HB.out.q;clear hY hbb HNn;refine wpAnyH_ready (rs:=[1,5]) (by kernel_rfl) (by simp) ?_;refine AllReadyH.cons (o:=⟨some 20,_,_,_,_,_⟩) rfl (fun K hK=>?_) (AllReadyH.cons (o:=⟨some 6,_,_,_,_,_⟩) rfl (fun K hK=>?_) AllReadyH.nil)
    ·go_simp;refine (HF0.out _ HB.out.1).mono ?_;rintro e Z18 ⟨A7,n7,ca7,css7,rfl,h1,h2,h3,h4,h5,hb⟩;have HR7:=aW (HB.out.res (L:=[b7]) (fun b hb=>by obtain rfl:=List.mem_singleton.1 hb;exact ⟨HN7.out.1,HN7.out.2.lt⟩) h1 h2 h3 h4 h5);clear h1 h2 h3 h4 h5;replace HB:=aW (HB.out.bel hb);replace HN7:=aW (HN7.out.bel hb);clear hb;refine hK.out _ _ (by exact ⟨HB.out.p,HB.out.q⟩) (fun hHeld2=>?_);clear hK K hHeld;have hHeld:=hHeld2;clear hHeld2
     try simp only [pU]
     refine wpAnyH_ready (rs:=[3,5]) (by kernel_rfl) (by simp) ?_;refine AllReadyH.cons (o:=⟨some 22,_,_,_,_,_⟩) rfl (fun K hK=>?_) (AllReadyH.cons (o:=⟨some 6,_,_,_,_,_⟩) rfl (fun K hK=>?_) AllReadyH.nil)
     ·go_simp;refine (HF1.out _ HB.out.1).mono ?_;rintro e Z19 ⟨A8,n8,ca8,css8,rfl,h1,h2,h3,h4,h5,hb⟩;have HR8:=aW (HB.out.res (L:=[b7]) (fun b hb=>by obtain rfl:=List.mem_singleton.1 hb;exact ⟨HN7.out.1,HN7.out.2.lt⟩) h1 h2 h3 h4 h5);clear h1 h2 h3 h4 h5;replace HB:=aW (HB.out.bel hb);replace HN7:=aW (HN7.out.bel hb);replace HR7:=aW (HR7.out.bel hb);clear hb;refine hK.out _ _ (by exact ⟨HB.out.p,HB.out.q⟩) (fun hHeld2=>?_);clear hK K hHeld;have hHeld:=hHeld2;clear hHeld2
      try simp only [pU]
      refine aV 5 6 rfl (fun K hK=>?_);go_simp;have HNn:=aW (HB.out.new (Y:=Z19.alloc (.cells #[.slice none 0 0] 24)) rfl);have hb:=(Below.refl _ Z19).alloc (Nat.le_refl _) (.cells #[.slice none 0 0] 24);replace HR7:=aW ((HR7.out.add (b:=Z19.heap.size) (Nat.le_refl _)).bel hb);replace HR8:=aW ((HR8.out.add (b:=Z19.heap.size) (Nat.le_refl _)).bel hb);have hneb7:=Nat.ne_of_lt HN7.out.2.lt;replace HN7:=aW (HN7.out.bel hb);replace HB:=aW (HB.out.bel hb);clear hb;refine hK.out _ _ (by exact ⟨HB.out.p,HB.out.q⟩) (fun hHeld2=>?_);clear hK K hHeld;have hHeld:=hHeld2;clear hHeld2
      try simp only [pU]
      refine cq (fun Y20 hY=>?_);obtain ⟨b8,hbb⟩:∃ b,Z19.heap.size=b:=⟨_,rfl⟩
      rw [hbb];rw [hbb] at HNn;rw [← hY] at HNn HB;rw [← hY,hbb] at HR7;rw [← hY,hbb] at HR8;rw [← hY] at HN7;rw [hbb] at hneb7;have HN8:=HNn;replace hHeld:=And.intro HB.out.p HB.out.q;clear hY hbb HNn;refine bz (l':=#[true,true,true,true,true,true,false,false]) (by kernel_rfl) ?_;exact HL _ _ _ _ _ _ _ _ _ ⟨css7,css8,HB,HN7,HN8,aW (HR7.out.two (b7:=b7) (b8:=b8) (by simp)),aW (HR8.out.two (b7:=b7) (b8:=b8) (by simp)),by have:=hneb7;omega⟩
     ·go_simp;have HNn:=aW (HB.out.new (Y:=Z18.alloc (.cells #[.slice none 0 0] 24)) rfl);have hb:=(Below.refl _ Z18).alloc (Nat.le_refl _) (.cells #[.slice none 0 0] 24);replace HR7:=aW ((HR7.out.add (b:=Z18.heap.size) (Nat.le_refl _)).bel hb);have hneb7:=Nat.ne_of_lt HN7.out.2.lt;replace HN7:=aW (HN7.out.bel hb);replace HB:=aW (HB.out.bel hb);clear hb;refine hK.out _ _ (by exact ⟨HB.out.p,HB.out.q⟩) (fun hHeld2=>?_);clear hK K hHeld;have hHeld:=hHeld2;clear hHeld2
      try simp only [pU]
      refine cq (fun Y21 hY=>?_);obtain ⟨b8,hbb⟩:∃ b,Z18.heap.size=b:=⟨_,rfl⟩
      rw [hbb];rw [hbb] at HNn;rw [← hY] at HNn HB;rw [← hY,hbb] at HR7;rw [← hY] at HN7;rw [hbb] at hneb7;have HN8:=HNn;replace hHeld:=And.intro HB.out.p HB.out.q;clear hY hbb HNn;refine aV 3 22 rfl (fun K hK=>?_);go_simp;refine (HF1.out _ HB.out.1).mono ?_;rintro e Z22 ⟨A8,n8,ca8,css8,rfl,h1,h2,h3,h4,h5,hb⟩;have HR8:=aW (HB.out.res (L:=[b8,b7]) (fun b hb=>by rcases List.mem_cons.1 hb with rfl | hb;exact ⟨HN8.out.1,HN8.out.2.lt⟩;obtain rfl:=List.mem_singleton.1 hb;exact ⟨HN7.out.1,HN7.out.2.lt⟩) h1 h2 h3 h4 h5);clear h1 h2 h3 h4 h5;replace HB:=aW (HB.out.bel hb);replace HN8:=aW (HN8.out.bel hb);replace HN7:=aW (HN7.out.bel hb);replace HR7:=aW (HR7.out.bel hb);clear hb;refine hK.out _ _ (by exact ⟨HB.out.p,HB.out.q⟩) (fun hHeld2=>?_);clear hK K hHeld;have hHeld:=hHeld2;clear hHeld2
      try simp only [pU]
      refine bz (l':=#[true,true,true,true,true,true,false,false]) (by kernel_rfl) ?_;exact HL _ _ _ _ _ _ _ _ _ ⟨css7,css8,HB,HN7,HN8,aW (HR7.out.two (b7:=b7) (b8:=b8) (by simp)),aW (HR8.out.two (b7:=b7) (b8:=b8) (by simp)),by have:=hneb7;omega⟩
    ·go_simp;have HNn:=aW (HB.out.new (Y:=Y17.alloc (.cells #[.slice none 0 0] 24)) rfl);have hb:=(Below.refl _ Y17).alloc (Nat.le_refl _) (.cells #[.slice none 0 0] 24);have hneb7:=Nat.ne_of_lt HN7.out.2.lt;replace HN7:=aW (HN7.out.bel hb);replace HB:=aW (HB.out.bel hb);clear hb;refine hK.out _ _ (by exact ⟨HB.out.p,HB.out.q⟩) (fun hHeld2=>?_);clear hK K hHeld;have hHeld:=hHeld2;clear hHeld2
     try simp only [pU]
     refine cq (fun Y23 hY=>?_);obtain ⟨b8,hbb⟩:∃ b,Y17.heap.size=b:=⟨_,rfl⟩
     rw [hbb];rw [hbb] at HNn;rw [← hY] at HNn HB;rw [← hY] at HN7;rw [hbb] at hneb7;have HN8:=HNn;replace hHeld:=And.intro HB.out.p HB.out.q;clear hY hbb HNn;refine aV 1 20 rfl (fun K hK=>?_);go_simp;refine (HF0.out _ HB.out.1).mono ?_;rintro e Z24 ⟨A7,n7,ca7,css7,rfl,h1,h2,h3,h4,h5,hb⟩;have HR7:=aW (HB.out.res (L:=[b8,b7]) (fun b hb=>by rcases List.mem_cons.1 hb with rfl | hb;exact ⟨HN8.out.1,HN8.out.2.lt⟩;obtain rfl:=List.mem_singleton.1 hb;exact ⟨HN7.out.1,HN7.out.2.lt⟩) h1 h2 h3 h4 h5);clear h1 h2 h3 h4 h5;replace HB:=aW (HB.out.bel hb);replace HN8:=aW (HN8.out.bel hb);replace HN7:=aW (HN7.out.bel hb);clear hb;refine hK.out _ _ (by exact ⟨HB.out.p,HB.out.q⟩) (fun hHeld2=>?_);clear hK K hHeld;have hHeld:=hHeld2;clear hHeld2
     try simp only [pU]
     refine aV 3 22 rfl (fun K hK=>?_);go_simp;refine (HF1.out _ HB.out.1).mono ?_;rintro e Z25 ⟨A8,n8,ca8,css8,rfl,h1,h2,h3,h4,h5,hb⟩;have HR8:=aW (HB.out.res (L:=[b8,b7]) (fun b hb=>by rcases List.mem_cons.1 hb with rfl | hb;exact ⟨HN8.out.1,HN8.out.2.lt⟩;obtain rfl:=List.mem_singleton.1 hb;exact ⟨HN7.out.1,HN7.out.2.lt⟩) h1 h2 h3 h4 h5);clear h1 h2 h3 h4 h5;replace HB:=aW (HB.out.bel hb);replace HN8:=aW (HN8.out.bel hb);replace HN7:=aW (HN7.out.bel hb);replace HR7:=aW (HR7.out.bel hb);clear hb;refine hK.out _ _ (by exact ⟨HB.out.p,HB.out.q⟩) (fun hHeld2=>?_);clear hK K hHeld;have hHeld:=hHeld2;clear hHeld2
     try simp only [pU]
     refine bz (l':=#[true,true,true,true,true,true,false,false]) (by kernel_rfl) ?_;exact HL _ _ _ _ _ _ _ _ _ ⟨css7,css8,HB,HN7,HN8,aW (HR7.out.two (b7:=b7) (b8:=b8) (by simp)),aW (HR8.out.two (b7:=b7) (b8:=b8) (by simp)),by have:=hneb7;omega⟩
   ·go_simp;have HNn:=aW (HB.out.new (Y:=Z0.alloc (.cells #[.slice none 0 0] 24)) rfl);have hb:=(Below.refl _ Z0).alloc (Nat.le_refl _) (.cells #[.slice none 0 0] 24);replace HB:=aW (HB.out.bel hb);clear hb;refine hK.out _ _ (by exact ⟨HB.out.p,HB.out.q⟩) (fun hHeld2=>?_);clear hK K hHeld;have hHeld:=hHeld2;clear hHeld2
    try simp only [pU]
    refine cq (fun Y26 hY=>?_);obtain ⟨b8,hbb⟩:∃ b,Z0.heap.size=b:=⟨_,rfl⟩
    rw [hbb];rw [hbb] at HNn;rw [← hY] at HNn HB;have HN8:=HNn;replace hHeld:=And.intro HB.out.p HB.out.q;clear hY hbb HNn;refine wpAnyH_ready (rs:=[1,4]) (by kernel_rfl) (by simp) ?_;refine AllReadyH.cons (o:=⟨some 20,_,_,_,_,_⟩) rfl (fun K hK=>?_) (AllReadyH.cons (o:=⟨some 5,_,_,_,_,_⟩) rfl (fun K hK=>?_) AllReadyH.nil)
    ·go_simp;refine (HF0.out _ HB.out.1).mono ?_;rintro e Z27 ⟨A7,n7,ca7,css7,rfl,h1,h2,h3,h4,h5,hb⟩;have HR7:=aW (HB.out.res (L:=[b8]) (fun b hb=>by obtain rfl:=List.mem_singleton.1 hb;exact ⟨HN8.out.1,HN8.out.2.lt⟩) h1 h2 h3 h4 h5);clear h1 h2 h3 h4 h5;replace HB:=aW (HB.out.bel hb);replace HN8:=aW (HN8.out.bel hb);clear hb;refine hK.out _ _ (by exact ⟨HB.out.p,HB.out.q⟩) (fun hHeld2=>?_);clear hK K hHeld;have hHeld:=hHeld2;clear hHeld2
     try simp only [pU]
     refine wpAnyH_ready (rs:=[3,4]) (by kernel_rfl) (by simp) ?_;refine AllReadyH.cons (o:=⟨some 22,_,_,_,_,_⟩) rfl (fun K hK=>?_) (AllReadyH.cons (o:=⟨some 5,_,_,_,_,_⟩) rfl (fun K hK=>?_) AllReadyH.nil)
     ·go_simp;refine (HF1.out _ HB.out.1).mono ?_;rintro e Z28 ⟨A8,n8,ca8,css8,rfl,h1,h2,h3,h4,h5,hb⟩;have HR8:=aW (HB.out.res (L:=[b8]) (fun b hb=>by obtain rfl:=List.mem_singleton.1 hb;exact ⟨HN8.out.1,HN8.out.2.lt⟩) h1 h2 h3 h4 h5);clear h1 h2 h3 h4 h5;replace HB:=aW (HB.out.bel hb);replace HN8:=aW (HN8.out.bel hb);replace HR7:=aW (HR7.out.bel hb);clear hb;refine hK.out _ _ (by exact ⟨HB.out.p,HB.out.q⟩) (fun hHeld2=>?_);clear hK K hHeld;have hHeld:=hHeld2;clear hHeld2
      try simp only [pU]
      refine aV 4 5 rfl (fun K hK=>?_);go_simp;have HNn:=aW (HB.out.new (Y:=Z28.alloc (.cells #[.slice none 0 0] 24)) rfl);have hb:=(Below.refl _ Z28).alloc (Nat.le_refl _) (.cells #[.slice none 0 0] 24);replace HR7:=aW ((HR7.out.add (b:=Z28.heap.size) (Nat.le_refl _)).bel hb);replace HR8:=aW ((HR8.out.add (b:=Z28.heap.size) (Nat.le_refl _)).bel hb);have hneb8:=Nat.ne_of_lt HN8.out.2.lt;replace HN8:=aW (HN8.out.bel hb);replace HB:=aW (HB.out.bel hb);clear hb;refine hK.out _ _ (by exact ⟨HB.out.p,HB.out.q⟩) (fun hHeld2=>?_);clear hK K hHeld;have hHeld:=hHeld2;clear hHeld2
      try simp only [pU]
      refine cq (fun Y29 hY=>?_);obtain ⟨b7,hbb⟩:∃ b,Z28.heap.size=b:=⟨_,rfl⟩
      rw [hbb];rw [hbb] at HNn;rw [← hY] at HNn HB;rw [← hY,hbb] at HR7;rw [← hY,hbb] at HR8;rw [← hY] at HN8;rw [hbb] at hneb8;have HN7:=HNn;replace hHeld:=And.intro HB.out.p HB.out.q;clear hY hbb HNn;refine bz (l':=#[true,true,true,true,true,true,false,false]) (by kernel_rfl) ?_;exact HL _ _ _ _ _ _ _ _ _ ⟨css7,css8,HB,HN7,HN8,aW (HR7.out.two (b7:=b7) (b8:=b8) (by simp)),aW (HR8.out.two (b7:=b7) (b8:=b8) (by simp)),by have:=hneb8;omega⟩
     ·go_simp;have HNn:=aW (HB.out.new (Y:=Z27.alloc (.cells #[.slice none 0 0] 24)) rfl);have hb:=(Below.refl _ Z27).alloc (Nat.le_refl _) (.cells #[.slice none 0 0] 24);replace HR7:=aW ((HR7.out.add (b:=Z27.heap.size) (Nat.le_refl _)).bel hb);have hneb8:=Nat.ne_of_lt HN8.out.2.lt;replace HN8:=aW (HN8.out.bel hb);replace HB:=aW (HB.out.bel hb);clear hb;refine hK.out _ _ (by exact ⟨HB.out.p,HB.out.q⟩) (fun hHeld2=>?_);clear hK K hHeld;have hHeld:=hHeld2;clear hHeld2
      try simp only [pU]
      refine cq (fun Y30 hY=>?_);obtain ⟨b7,hbb⟩:∃ b,Z27.heap.size=b:=⟨_,rfl⟩
      rw [hbb];rw [hbb] at HNn;rw [← hY] at HNn HB;rw [← hY,hbb] at HR7;rw [← hY] at HN8;rw [hbb] at hneb8;have HN7:=HNn;replace hHeld:=And.intro HB.out.p HB.out.q;clear hY hbb HNn;refine aV 3 22 rfl (fun K hK=>?_);go_simp;refine (HF1.out _ HB.out.1).mono ?_;rintro e Z31 ⟨A8,n8,ca8,css8,rfl,h1,h2,h3,h4,h5,hb⟩;have HR8:=aW (HB.out.res (L:=[b7,b8]) (fun b hb=>by rcases List.mem_cons.1 hb with rfl | hb;exact ⟨HN7.out.1,HN7.out.2.lt⟩;obtain rfl:=List.mem_singleton.1 hb;exact ⟨HN8.out.1,HN8.out.2.lt⟩) h1 h2 h3 h4 h5);clear h1 h2 h3 h4 h5;replace HB:=aW (HB.out.bel hb);replace HN7:=aW (HN7.out.bel hb);replace HN8:=aW (HN8.out.bel hb);replace HR7:=aW (HR7.out.bel hb);clear hb;refine hK.out _ _ (by exact ⟨HB.out.p,HB.out.q⟩) (fun hHeld2=>?_);clear hK K hHeld;have hHeld:=hHeld2;clear hHeld2
      try simp only [pU]
      refine bz (l':=#[true,true,true,true,true,true,false,false]) (by kernel_rfl) ?_;exact HL _ _ _ _ _ _ _ _ _ ⟨css7,css8,HB,HN7,HN8,aW (HR7.out.two (b7:=b7) (b8:=b8) (by simp)),aW (HR8.out.two (b7:=b7) (b8:=b8) (by simp)),by have:=hneb8;omega⟩
    ·go_simp;have HNn:=aW (HB.out.new (Y:=Y26.alloc (.cells #[.slice none 0 0] 24)) rfl);have hb:=(Below.refl _ Y26).alloc (Nat.le_refl _) (.cells #[.slice none 0 0] 24);have hneb8:=Nat.ne_of_lt HN8.out.2.lt;replace HN8:=aW (HN8.out.bel hb);replace HB:=aW (HB.out.bel hb);clear hb;refine hK.out _ _ (by exact ⟨HB.out.p,HB.out.q⟩) (fun hHeld2=>?_);clear hK K hHeld;have hHeld:=hHeld2;clear hHeld2
     try simp only [pU]
     refine cq (fun Y32 hY=>?_);obtain ⟨b7,hbb⟩:∃ b,Y26.heap.size=b:=⟨_,rfl⟩
     rw [hbb];rw [hbb] at HNn;rw [← hY] at HNn HB;rw [← hY] at HN8;rw [hbb] at hneb8;have HN7:=HNn;replace hHeld:=And.intro HB.out.p HB.out.q;clear hY hbb HNn;refine aV 1 20 rfl (fun K hK=>?_);go_simp;refine (HF0.out _ HB.out.1).mono ?_;rintro e Z33 ⟨A7,n7,ca7,css7,rfl,h1,h2,h3,h4,h5,hb⟩;have HR7:=aW (HB.out.res (L:=[b7,b8]) (fun b hb=>by rcases List.mem_cons.1 hb with rfl | hb;exact ⟨HN7.out.1,HN7.out.2.lt⟩;obtain rfl:=List.mem_singleton.1 hb;exact ⟨HN8.out.1,HN8.out.2.lt⟩) h1 h2 h3 h4 h5);clear h1 h2 h3 h4 h5;replace HB:=aW (HB.out.bel hb);replace HN7:=aW (HN7.out.bel hb);replace HN8:=aW (HN8.out.bel hb);clear hb;refine hK.out _ _ (by exact ⟨HB.out.p,HB.out.q⟩) (fun hHeld2=>?_);clear hK K hHeld;have hHeld:=hHeld2;clear hHeld2
     try simp only [pU]
     refine aV 3 22 rfl (fun K hK=>?_);go_simp;refine (HF1.out _ HB.out.1).mono ?_;rintro e Z34 ⟨A8,n8,ca8,css8,rfl,h1,h2,h3,h4,h5,hb⟩;have HR8:=aW (HB.out.res (L:=[b7,b8]) (fun b hb=>by rcases List.mem_cons.1 hb with rfl | hb;exact ⟨HN7.out.1,HN7.out.2.lt⟩;obtain rfl:=List.mem_singleton.1 hb;exact ⟨HN8.out.1,HN8.out.2.lt⟩) h1 h2 h3 h4 h5);clear h1 h2 h3 h4 h5;replace HB:=aW (HB.out.bel hb);replace HN7:=aW (HN7.out.bel hb);replace HN8:=aW (HN8.out.bel hb);replace HR7:=aW (HR7.out.bel hb);clear hb;refine hK.out _ _ (by exact ⟨HB.out.p,HB.out.q⟩) (fun hHeld2=>?_);clear hK K hHeld;have hHeld:=hHeld2;clear hHeld2
     try simp only [pU]
     refine bz (l':=#[true,true,true,true,true,true,false,false]) (by kernel_rfl) ?_;exact HL _ _ _ _ _ _ _ _ _ ⟨css7,css8,HB,HN7,HN8,aW (HR7.out.two (b7:=b7) (b8:=b8) (by simp)),aW (HR8.out.two (b7:=b7) (b8:=b8) (by simp)),by have:=hneb8;omega⟩
  case hleaf =>
   rintro Z b7 b8 A7 n7 ca7 A8 n8 ca8 ⟨css7,css8,HB,HN7,HN8,HR7,HR8,hne⟩;have hHeld:=And.intro HB.out.p HB.out.q;refine aU 6 rfl (fun K hK=>?_);obtain ⟨c8,f8,l8⟩:=HN7.out.2.rules;go_simp;have HNn:=aW (And.intro HN7.out.1 (HN7.out.2.set_ 0 (.slice A7 n7 ca7)));have HNo:=aW (And.intro HN8.out.1 (HN8.out.2.far (p:=⟨b7,0,none⟩) (by show b8≠b7;omega) (.slice A7 n7 ca7)));have HBn:=aW (HB.out.st HN7.out.1 (.slice A7 n7 ca7));have HRn7:=aW (HR7.out.st (b:=b7) (by simp) (.slice A7 n7 ca7));have HRn8:=aW (HR8.out.st (b:=b7) (by simp) (.slice A7 n7 ca7));refine hK.out _ _ (by exact ⟨HBn.out.p,HBn.out.q⟩) (fun hHeld2=>?_);clear hK K hHeld c8 f8 l8 HN7 HN8 HB HR7 HR8;have hHeld:=hHeld2;clear hHeld2
   try simp only [pU]
   refine cq (fun Y hY=>?_);rw [← hY] at HNn HNo HBn HRn7 HRn8;have HN7:=HNn;have HN8:=HNo;have HB:=HBn;have HR7:=HRn7;have HR8:=HRn8;replace hHeld:=And.intro HB.out.p HB.out.q;clear hY HNn HNo HBn HRn7 HRn8;refine aU 7 rfl (fun K hK=>?_);obtain ⟨c8,f8,l8⟩:=HN8.out.2.rules;go_simp;have HNn:=aW (And.intro HN8.out.1 (HN8.out.2.set_ 0 (.slice A8 n8 ca8)));have HNo:=aW (And.intro HN7.out.1 (HN7.out.2.far (p:=⟨b8,0,none⟩) (by show b7≠b8;omega) (.slice A8 n8 ca8)));have HBn:=aW (HB.out.st HN8.out.1 (.slice A8 n8 ca8));have HRn7:=aW (HR7.out.st (b:=b8) (by simp) (.slice A8 n8 ca8));have HRn8:=aW (HR8.out.st (b:=b8) (by simp) (.slice A8 n8 ca8));refine hK.out _ _ (by exact ⟨HBn.out.p,HBn.out.q⟩) (fun hHeld2=>?_);clear hK K hHeld c8 f8 l8 HN8 HN7 HB HR7 HR8;have hHeld:=hHeld2;clear hHeld2
   try simp only [pU]
   refine cq (fun Y hY=>?_);rw [← hY] at HNn HNo HBn HRn7 HRn8;have HN8:=HNn;have HN7:=HNo;have HB:=HBn;have HR7:=HRn7;have HR8:=HRn8;replace hHeld:=And.intro HB.out.p HB.out.q;clear hY HNn HNo HBn HRn7 HRn8;refine aX ?_;go_wp2;go_meet
   case rel=>exact ⟨b7,b8,A7,n7,ca7,A8,n8,ca8,_,rfl,rfl,rfl,HB,aW ⟨HN7.out.1,HN7.out.2⟩,aW ⟨HN8.out.1,HN8.out.2⟩,aW HR7.out.tt,aW HR8.out.tt⟩
 case rest =>
  obtain ⟨b7,b8,A7,n7,ca7,A8,n8,ca8,W3,rfl,rfl,rfl,HRF,HN7,HN8,HP7,HP8⟩:=hcut;have HB3:=aW HRF.out.1;have HK0:=aW (fun (W:World) (h:Below W3.heap.size W3 W)=>show (fun W'=>Blk W' b7 24 #[.slice A7 n7 ca7]∧Blk W' b8 24 #[.slice A8 n8 ca8]) W from ⟨HN7.out.2.keep h,HN8.out.2.keep h⟩);clear HRF HN7 HN8 HF0 HF1 HH1;obtain ⟨⟨t1,r1⟩,hp1⟩:∃ r,dG p=r:=⟨_,rfl⟩
  obtain ⟨⟨t2,r2⟩,hp2⟩:∃ r,dG q=r:=⟨_,rfl⟩
  have HPA:=aW (fun (W:World) (h:Below W3.heap.size W3 W)=>xp (HP7.out.bel h) (HG.out _ (HB3.out.trans (h.mono HB3.out.size))) HPQ.out.1.cam (Nat.le_trans HPQ.out.1.sum (by decide)));have HPB:=aW (fun (W:World) (h:Below W3.heap.size W3 W)=>xp (HP8.out.bel h) (HG.out _ (HB3.out.trans (h.mono HB3.out.size))) HPQ.out.2.cam (Nat.le_trans HPQ.out.2.sum (by decide)));unfold vr at HPA HPB;rw [hp1] at HPA;rw [hp2] at HPB;simp only at HPA HPB;have HJ1:=aW (ou p);have HJ2:=aW (ou q);rw [hp1] at HJ1;rw [hp2] at HJ2;clear hp1 hp2;obtain ⟨⟨c7,f7,l7⟩,⟨c8,f8,l8⟩⟩:=(fun h=>And.intro (Blk.rules (And.left h)) (Blk.rules (And.right h))) (HK0.out _ (Below.refl _ _))
  go_upto_region 5 with (go_at_call 16;refine (HPA.out _ (Below.refl _ _)).mono ?_;rintro e w4 ⟨rfl,hb4⟩);have HB4:=aW hb4;clear hb4 c7 f7 l7 c8 f8 l8;obtain ⟨⟨c7,f7,l7⟩,⟨c8,f8,l8⟩⟩:=(fun h=>And.intro (Blk.rules (And.left h)) (Blk.rules (And.right h))) (HK0.out _ HB4.out)
  go_upto_region 6 with (go_at_call 16;refine (HPB.out _ HB4.out).mono ?_;rintro e w5 ⟨rfl,hb5⟩);have HB5:=aW (HB4.out.trans (hb5.mono HB4.out.size));have HW5:=aW (HB3.out.trans (HB5.out.mono HB3.out.size));clear hb5 c7 f7 l7 c8 f8 l8 HB4;by_cases h1:r1=0;rotate_left
  ·have hx:(r1 != 0)=true:=by simp [h1]
   go_wp2;go_ret;exact ⟨rfl,HW5.out⟩
  by_cases h2:r2=0;rotate_left
  ·have hx:(r1 != 0)=false:=by simp [h1]
   have hx2:(r2 != 0)=true:=by simp [h2]
   go_wp2;go_ret;exact ⟨rfl,HW5.out⟩
  have hj1:jz p=true∧(fA p).length≤512∧t1=fA p:=by
   rcases HJ1.out with ⟨_,h⟩ | ⟨_,_,h⟩ | ⟨h3,h4,h⟩
   ·injection h with _ h;rw [h1] at h;cases h
   ·injection h with _ h;rw [h1] at h;cases h
   ·injection h with h _;exact ⟨h3,h4,h⟩
  have hj2:jz q=true∧(fA q).length≤512∧t2=fA q:=by
   rcases HJ2.out with ⟨_,h⟩ | ⟨_,_,h⟩ | ⟨h3,h4,h⟩
   ·injection h with _ h;rw [h2] at h;cases h
   ·injection h with _ h;rw [h2] at h;cases h
   ·injection h with h _;exact ⟨h3,h4,h⟩
  subst h1 h2;have HT:=aW (And.intro hj1 hj2);clear hj1 hj2 HJ1 HJ2;obtain ⟨css7,hs7,hr7,hl7,hc7⟩:=HP7.out.bel HB5.out;obtain ⟨css8,hs8,hr8,hl8,hc8⟩:=HP8.out.bel HB5.out;have hn7:n7≤5:=by rw [← hl7];exact HPQ.out.1.len
  have hn8:n8≤5:=by rw [← hl8];exact HPQ.out.2.len
  have HK:=aW (fun (W:World) (h:Below w5.heap.size w5 W)=>HK0.out W (HB5.out.trans (h.mono HB5.out.size)));have HNL:=aW (And.intro hl7 hl8);have HC7:=aW (show css7.flatten.length=n7*20∧∀ u ∈ css7.flatten,u.oneCell'=true from ⟨by rw [RR.flat hs7 (m:=20) fun c x hc=>hc.len,hl7],fun u hu=>by
   obtain ⟨c,hc,hu⟩:=List.mem_flatten.1 hu;obtain ⟨x,_,hx⟩:=RR.mem hs7 hc;exact hx.one u hu⟩)
  have HC8:=aW (show css8.flatten.length=n8*20∧∀ u ∈ css8.flatten,u.oneCell'=true from ⟨by rw [RR.flat hs8 (m:=20) fun c x hc=>hc.len,hl8],fun u hu=>by
   obtain ⟨c,hc,hu⟩:=List.mem_flatten.1 hu;obtain ⟨x,_,hx⟩:=RR.mem hs8 hc;exact hx.one u hu⟩)
  have HQ:=aW (show (A7=none→n7=0)∧(A8=none→n8=0) from And.intro
   (fun e=>by
    have h:=HC7.out.1;rcases Nat.eq_zero_or_pos n7 with h0 | h0
    ·exact h0
    ·obtain ⟨b,o,e2,_⟩:=hr7 (by intro e9;rw [e9] at h;simp at h;omega);rw [e] at e2;cases e2)
   (fun e=>by
    have h:=HC8.out.1;rcases Nat.eq_zero_or_pos n8 with h0 | h0
    ·exact h0
    ·obtain ⟨b,o,e2,_⟩:=hr8 (by intro e9;rw [e9] at h;simp at h;omega);rw [e] at e2;cases e2))
  have HR7:=aW (fun (W:World) (h:Below w5.heap.size w5 W)=>(hr7.keep (ah.of_below h)).rd);have HR8:=aW (fun (W:World) (h:Below w5.heap.size w5 W)=>(hr8.keep (ah.of_below h)).rd);have HSR:=aW (fun (W:World) (b:Nat) (h:Below w5.heap.size w5 W) (hb:w5.heap.size≤b)=>show SRs W (fun k=>k≠b) css7 p∧SRs W (fun k=>k≠b) css8 q from by
   have hm:∀ k,k<w5.heap.size→TT k→k≠b:=fun k hk _=>by omega
   exact ⟨RR.imp hs7 fun c x hc=>(hc.mono hm).bel h,RR.imp hs8 fun c x hc=>(hc.mono hm).bel h⟩)
  obtain ⟨i0,hi,hz0,hz1,hz2⟩:=info_parts t0;have HI:=aW hi;clear hi hs7 hr7 hl7 hc7 hs8 hr8 hl8 hc8;go_upto_region 8 with fail;go_cut [11] (fun s11 wx => ∃ (b11:Nat) (RA:Option Addr) (rc:Nat) (W:World),W=wx∧s11=.pointer (some ⟨b11,0,none⟩)∧Hid (Blk W b11 24 #[.slice RA (n7+n8) rc])∧Hid (jM W RA (n7+n8) rc (p++q))∧Hid (Below w5.heap.size w5 W))
  case first =>
   apply zy (R:=fun Z b11 RA rc=>Hid (Below w5.heap.size w5 Z)∧Hid (Blk Z b11 24 #[.slice none 0 0]∧w5.heap.size≤b11∧some b11≠(Value.slice RA (n7+n8) rc).ownBlock)∧Hid (∃ css,SRs Z (fun k=>k≠b11) css (p++q)∧RdF Z (fun k=>k≠b11) RA css.flatten∧(p++q).length=n7+n8∧n7+n8≤rc))
   case h =>
    intro HL;refine wp_region_held_drew (S:=fun W'=>Blk W' b7 24 #[.slice A7 n7 ca7]∧Blk W' b8 24 #[.slice A8 n8 ca8]) (by kernel_rfl) (by exact ⟨(HK.out _ (Below.refl _ _)).1.drew,(HK.out _ (Below.refl _ _)).2.drew⟩) (fun hHeld=>?_);refine cq (fun Z0 hw=>?_);have HZ:=aW (show Below w5.heap.size w5 Z0 by rw [hw];exact (Below.refl _ _).drew);clear hw hHeld;have hHeld:=HK.out _ HZ.out;refine tA 1 40 (.pointer (some ⟨b7,0,none⟩)) rfl ?_;refine aY 2 41 (.slice A7 n7 ca7) rfl ?_ ?_
    ·intro W hSw;obtain ⟨c8,f8,l8⟩:=hSw.1.rules;go_simp
    refine tA 4 43 (.pointer (some ⟨b8,0,none⟩)) rfl ?_;refine aY 5 44 (.slice A8 n8 ca8) rfl ?_ ?_
    ·intro W hSw;obtain ⟨c8,f8,l8⟩:=hSw.2.rules;go_simp
    refine wpAnyH_ready (rs:=[0,8]) (by kernel_rfl) (by simp) ?_;refine AllReadyH.cons (o:=⟨some 39,_,_,_,_,_⟩) rfl (fun K hK=>?_) (AllReadyH.cons (o:=⟨some 11,_,_,_,_,_⟩) rfl (fun K hK=>?_) AllReadyH.nil)
    ·go_simp;have hbA:=(Below.refl _ Z0).alloc (Nat.le_refl _) (.cells #[] 48);have HO:=aW (World.ownsRow_lit (base:=w5.heap.size) (size:=20) (e:=48) Z0 #[] 0 HZ.out.size (by unfold maxLen;omega) rfl);have hz:=aW (HZ.out.trans (hbA.mono HZ.out.size));clear HZ hbA;have HZ:=hz;clear hz;refine hK.out _ _ (by exact HK.out _ HZ.out) (fun hHeld2=>?_);clear hK K hHeld;have hHeld:=hHeld2;clear hHeld2
     try simp only [pU]
     refine cq (fun Z1 hY=>?_);obtain ⟨rb,hrb⟩:∃ b,Z0.heap.size=b:=⟨_,rfl⟩
     rw [hrb] at HO ⊢;rw [← hY] at HO HZ;clear hY hrb;replace hHeld:=HK.out _ HZ.out;refine wpAnyH_ready (rs:=[3,8]) (by kernel_rfl) (by simp) ?_;refine AllReadyH.cons (o:=⟨some 42,_,_,_,_,_⟩) rfl (fun K hK=>?_) (AllReadyH.cons (o:=⟨some 11,_,_,_,_,_⟩) rfl (fun K hK=>?_) AllReadyH.nil)
     ·rw [if_pos (by kernel_rfl)];refine jK _ (.tmp 39) (.tmp 41) 22 rfl w5.heap.size 48 i0 _ 20 328 Tryz.underlying22 HI.out hz0 hz1 hz2 rfl (by decide) (.slice (some ⟨rb,0,none⟩) 0 0) 0 ([]) (by rfl) HO.out A7 n7 ca7 HQ.out.1 css7.flatten (by rfl) HC7.out.1 (HR7.out _ HZ.out) HC7.out.2 (by unfold maxLen;omega) (by omega) HZ.out.size ?_;intro row2 Z2 hown hgr hob;have ho2:=aW (show Z2.ownsRow w5.heap.size 48 20 row2 n7 css7.flatten by simpa using hown);have hz:=aW (show Below w5.heap.size w5 Z2 from HZ.out.grown hgr HZ.out.size (fun k e=>(HO.out.lt k e).1));clear hown hgr hob HO HZ;have HO:=ho2;have HZ:=hz;clear ho2 hz;refine hK.out _ _ (by exact HK.out _ HZ.out) (fun hHeld2=>?_);clear hK K hHeld;have hHeld:=hHeld2;clear hHeld2
      try simp only [pU]
      replace hHeld:=HK.out _ HZ.out;refine wpAnyH_ready (rs:=[6,8]) (by kernel_rfl) (by simp) ?_;refine AllReadyH.cons (o:=⟨some 45,_,_,_,_,_⟩) rfl (fun K hK=>?_) (AllReadyH.cons (o:=⟨some 11,_,_,_,_,_⟩) rfl (fun K hK=>?_) AllReadyH.nil)
      ·rw [if_pos (by kernel_rfl)];refine jK _ (.tmp 42) (.tmp 44) 22 rfl w5.heap.size 48 i0 _ 20 328 Tryz.underlying22 HI.out hz0 hz1 hz2 rfl (by decide) (row2) n7 (css7.flatten) (by rfl) HO.out A8 n8 ca8 HQ.out.2 css8.flatten (by rfl) HC8.out.1 (HR8.out _ HZ.out) HC8.out.2 (by unfold maxLen;omega) (by omega) HZ.out.size ?_;intro row3 Z3 hown hgr hob;have ho2:=aW (show Z3.ownsRow w5.heap.size 48 20 row3 (n7+n8) (css7.flatten++css8.flatten) by simpa using hown);have hz:=aW (show Below w5.heap.size w5 Z3 from HZ.out.grown hgr HZ.out.size (fun k e=>(HO.out.lt k e).1));clear hown hgr hob HO HZ;have HO:=ho2;have HZ:=hz;clear ho2 hz;obtain ⟨RA,rc,rfl,hrc,hrn,hrr⟩:=cx HO.out;have HRC:=aW (And.intro hrc hrr);clear hrc hrn hrr;refine hK.out _ _ (by exact HK.out _ HZ.out) (fun hHeld2=>?_);clear hK K hHeld;have hHeld:=hHeld2;clear hHeld2
       try simp only [pU]
       replace hHeld:=HK.out _ HZ.out;refine tA 7 46 (.agg #[.slice RA (n7+n8) rc]) rfl ?_;refine aV 8 11 rfl (fun K hK=>?_);go_simp;have hbA:=(Below.refl _ Z3).alloc (Nat.le_refl _) (.cells #[.slice none 0 0] 24);have HX:=aW (show Blk (Z3.alloc (.cells #[.slice none 0 0] 24)) Z3.heap.size 24 #[.slice none 0 0]∧w5.heap.size≤Z3.heap.size∧some Z3.heap.size≠(.slice RA (n7+n8) rc:Value).ownBlock from ⟨Blk.new _ _ _,HZ.out.size,fun e=>by have:=(HO.out.lt _ e.symm).2;omega⟩);have ho2:=aW (om HO.out hbA);clear HO;have HO:=ho2;clear ho2;have hz:=aW (HZ.out.trans (hbA.mono HZ.out.size));clear HZ hbA;have HZ:=hz;clear hz;refine hK.out _ _ (by exact HK.out _ HZ.out) (fun hHeld2=>?_);clear hK K hHeld;have hHeld:=hHeld2;clear hHeld2
       try simp only [pU]
       refine cq (fun Z3b hY=>?_);obtain ⟨b11,hb11⟩:∃ b,Z3.heap.size=b:=⟨_,rfl⟩
       rw [hb11] at HX ⊢;rw [← hY] at HX HZ HO;clear hY hb11;replace hHeld:=HK.out _ HZ.out;obtain ⟨hrc,hrr⟩:=HRC.out;have hrr:=(cx HO.out)
       obtain ⟨RA',rc',he,hrc',hrn,hrr⟩:=hrr;injection he with he1 he2 he3
       subst he1 he3;have HJ:=aW (show ∃ css,SRs Z3b (fun k=>k≠b11) css (p++q)∧RdF Z3b (fun k=>k≠b11) RA css.flatten∧(p++q).length=n7+n8∧n7+n8≤rc by
        refine ⟨css7++css8,?_,?_,by rw [List.length_append,HNL.out.1,HNL.out.2],hrc⟩
        ·exact (HSR.out _ b11 HZ.out HX.out.2.1).1.append (HSR.out _ b11 HZ.out HX.out.2.1).2
        ·rw [List.flatten_append];intro hne;obtain ⟨b,o,e1,h1,h2,h3⟩:=hrr hne;exact ⟨b,o,e1,h1,fun e=>HX.out.2.2 (by rw [← e,e1];rfl),h3⟩)
       clear hrc hrn hrr hrc' he2;refine bz (l':=#[true,true,true,true,true,true,true,true,true,false]) (by kernel_rfl) ?_;exact HL _ b11 RA rc rb row2 ⟨HZ,HX,HJ⟩
      ·go_simp;have hbA:=(Below.refl _ Z2).alloc (Nat.le_refl _) (.cells #[.slice none 0 0] 24);have HX:=aW (show Blk (Z2.alloc (.cells #[.slice none 0 0] 24)) Z2.heap.size 24 #[.slice none 0 0]∧w5.heap.size≤Z2.heap.size∧some Z2.heap.size≠(row2:Value).ownBlock from ⟨Blk.new _ _ _,HZ.out.size,fun e=>by have:=(HO.out.lt _ e.symm).2;omega⟩);have ho2:=aW (om HO.out hbA);clear HO;have HO:=ho2;clear ho2;have hz:=aW (HZ.out.trans (hbA.mono HZ.out.size));clear HZ hbA;have HZ:=hz;clear hz;refine hK.out _ _ (by exact HK.out _ HZ.out) (fun hHeld2=>?_);clear hK K hHeld;have hHeld:=hHeld2;clear hHeld2
       try simp only [pU]
       refine cq (fun Z2b hY=>?_);obtain ⟨b11,hb11⟩:∃ b,Z2.heap.size=b:=⟨_,rfl⟩
       rw [hb11] at HX ⊢;rw [← hY] at HX HZ HO;clear hY hb11;replace hHeld:=HK.out _ HZ.out;refine aV 6 45 rfl (fun K hK=>?_);rw [if_pos (by kernel_rfl)];refine jK _ (.tmp 42) (.tmp 44) 22 rfl w5.heap.size 48 i0 _ 20 328 Tryz.underlying22 HI.out hz0 hz1 hz2 rfl (by decide) (row2) n7 (css7.flatten) (by rfl) HO.out A8 n8 ca8 HQ.out.2 css8.flatten (by rfl) HC8.out.1 (HR8.out _ HZ.out) HC8.out.2 (by unfold maxLen;omega) (by omega) HZ.out.size ?_;intro row3 Z3b hown hgr hob;have ho2:=aW (show Z3b.ownsRow w5.heap.size 48 20 row3 (n7+n8) (css7.flatten++css8.flatten) by simpa using hown);have hz:=aW (show Below w5.heap.size w5 Z3b from HZ.out.grown hgr HZ.out.size (fun k e=>(HO.out.lt k e).1));have hx:=aW (show Blk Z3b b11 24 #[.slice none 0 0]∧w5.heap.size≤b11∧some b11≠row3.ownBlock from ⟨HX.out.1.grown hgr HX.out.2.2,HX.out.2.1,fun e=>by
        rcases hob with ho | ho
        ·rw [ho] at e;exact HX.out.2.2 e
        ·rw [ho] at e;have:=HX.out.1.lt;injection e;omega⟩)
       clear HX;clear hown hgr hob HO HZ;have HO:=ho2;have HZ:=hz;clear ho2 hz;have HX:=hx;clear hx;obtain ⟨RA,rc,rfl,hrc,hrn,hrr⟩:=cx HO.out;have HJ:=aW (show ∃ css,SRs Z3b (fun k=>k≠b11) css (p++q)∧RdF Z3b (fun k=>k≠b11) RA css.flatten∧(p++q).length=n7+n8∧n7+n8≤rc by
        refine ⟨css7++css8,?_,?_,by rw [List.length_append,HNL.out.1,HNL.out.2],hrc⟩
        ·exact (HSR.out _ b11 HZ.out HX.out.2.1).1.append (HSR.out _ b11 HZ.out HX.out.2.1).2
        ·rw [List.flatten_append];intro hne;obtain ⟨b,o,e1,h1,h2,h3⟩:=hrr hne;exact ⟨b,o,e1,h1,fun e=>HX.out.2.2 (by rw [← e,e1];rfl),h3⟩)
       clear hrc hrn hrr;refine hK.out _ _ (by exact HK.out _ HZ.out) (fun hHeld2=>?_);clear hK K hHeld;have hHeld:=hHeld2;clear hHeld2
       try simp only [pU]
       replace hHeld:=HK.out _ HZ.out;refine tA 7 46 (.agg #[.slice RA (n7+n8) rc]) rfl ?_;refine bz (l':=#[true,true,true,true,true,true,true,true,true,false]) (by kernel_rfl) ?_;exact HL _ b11 RA rc rb row2 ⟨HZ,HX,HJ⟩
     ·go_simp;have hbA:=(Below.refl _ Z1).alloc (Nat.le_refl _) (.cells #[.slice none 0 0] 24);have HX:=aW (show Blk (Z1.alloc (.cells #[.slice none 0 0] 24)) Z1.heap.size 24 #[.slice none 0 0]∧w5.heap.size≤Z1.heap.size∧some Z1.heap.size≠(.slice (some ⟨rb,0,none⟩) 0 0:Value).ownBlock from ⟨Blk.new _ _ _,HZ.out.size,fun e=>by have:=(HO.out.lt _ e.symm).2;omega⟩);have ho2:=aW (om HO.out hbA);clear HO;have HO:=ho2;clear ho2;have hz:=aW (HZ.out.trans (hbA.mono HZ.out.size));clear HZ hbA;have HZ:=hz;clear hz;refine hK.out _ _ (by exact HK.out _ HZ.out) (fun hHeld2=>?_);clear hK K hHeld;have hHeld:=hHeld2;clear hHeld2
      try simp only [pU]
      refine cq (fun Z1b hY=>?_);obtain ⟨b11,hb11⟩:∃ b,Z1.heap.size=b:=⟨_,rfl⟩
      rw [hb11] at HX ⊢;rw [← hY] at HX HZ HO;clear hY hb11;replace hHeld:=HK.out _ HZ.out;refine aV 3 42 rfl (fun K hK=>?_);rw [if_pos (by kernel_rfl)];refine jK _ (.tmp 39) (.tmp 41) 22 rfl w5.heap.size 48 i0 _ 20 328 Tryz.underlying22 HI.out hz0 hz1 hz2 rfl (by decide) (.slice (some ⟨rb,0,none⟩) 0 0) 0 ([]) (by rfl) HO.out A7 n7 ca7 HQ.out.1 css7.flatten (by rfl) HC7.out.1 (HR7.out _ HZ.out) HC7.out.2 (by unfold maxLen;omega) (by omega) HZ.out.size ?_;intro row2 Z2b hown hgr hob;have ho2:=aW (show Z2b.ownsRow w5.heap.size 48 20 row2 n7 css7.flatten by simpa using hown);have hz:=aW (show Below w5.heap.size w5 Z2b from HZ.out.grown hgr HZ.out.size (fun k e=>(HO.out.lt k e).1));have hx:=aW (show Blk Z2b b11 24 #[.slice none 0 0]∧w5.heap.size≤b11∧some b11≠row2.ownBlock from ⟨HX.out.1.grown hgr HX.out.2.2,HX.out.2.1,fun e=>by
       rcases hob with ho | ho
       ·rw [ho] at e;exact HX.out.2.2 e
       ·rw [ho] at e;have:=HX.out.1.lt;injection e;omega⟩)
      clear HX;clear hown hgr hob HO HZ;have HO:=ho2;have HZ:=hz;clear ho2 hz;have HX:=hx;clear hx;refine hK.out _ _ (by exact HK.out _ HZ.out) (fun hHeld2=>?_);clear hK K hHeld;have hHeld:=hHeld2;clear hHeld2
      try simp only [pU]
      replace hHeld:=HK.out _ HZ.out;refine aV 6 45 rfl (fun K hK=>?_);rw [if_pos (by kernel_rfl)];refine jK _ (.tmp 42) (.tmp 44) 22 rfl w5.heap.size 48 i0 _ 20 328 Tryz.underlying22 HI.out hz0 hz1 hz2 rfl (by decide) (row2) n7 (css7.flatten) (by rfl) HO.out A8 n8 ca8 HQ.out.2 css8.flatten (by rfl) HC8.out.1 (HR8.out _ HZ.out) HC8.out.2 (by unfold maxLen;omega) (by omega) HZ.out.size ?_;intro row3 Z3b hown hgr hob;have ho2:=aW (show Z3b.ownsRow w5.heap.size 48 20 row3 (n7+n8) (css7.flatten++css8.flatten) by simpa using hown);have hz:=aW (show Below w5.heap.size w5 Z3b from HZ.out.grown hgr HZ.out.size (fun k e=>(HO.out.lt k e).1));have hx:=aW (show Blk Z3b b11 24 #[.slice none 0 0]∧w5.heap.size≤b11∧some b11≠row3.ownBlock from ⟨HX.out.1.grown hgr HX.out.2.2,HX.out.2.1,fun e=>by
       rcases hob with ho | ho
       ·rw [ho] at e;exact HX.out.2.2 e
       ·rw [ho] at e;have:=HX.out.1.lt;injection e;omega⟩)
      clear HX;clear hown hgr hob HO HZ;have HO:=ho2;have HZ:=hz;clear ho2 hz;have HX:=hx;clear hx;obtain ⟨RA,rc,rfl,hrc,hrn,hrr⟩:=cx HO.out;have HJ:=aW (show ∃ css,SRs Z3b (fun k=>k≠b11) css (p++q)∧RdF Z3b (fun k=>k≠b11) RA css.flatten∧(p++q).length=n7+n8∧n7+n8≤rc by
       refine ⟨css7++css8,?_,?_,by rw [List.length_append,HNL.out.1,HNL.out.2],hrc⟩
       ·exact (HSR.out _ b11 HZ.out HX.out.2.1).1.append (HSR.out _ b11 HZ.out HX.out.2.1).2
       ·rw [List.flatten_append];intro hne;obtain ⟨b,o,e1,h1,h2,h3⟩:=hrr hne;exact ⟨b,o,e1,h1,fun e=>HX.out.2.2 (by rw [← e,e1];rfl),h3⟩)
      clear hrc hrn hrr;refine hK.out _ _ (by exact HK.out _ HZ.out) (fun hHeld2=>?_);clear hK K hHeld;have hHeld:=hHeld2;clear hHeld2
      try simp only [pU]
      replace hHeld:=HK.out _ HZ.out;refine tA 7 46 (.agg #[.slice RA (n7+n8) rc]) rfl ?_;refine bz (l':=#[true,true,true,true,true,true,true,true,true,false]) (by kernel_rfl) ?_;exact HL _ b11 RA rc rb row2 ⟨HZ,HX,HJ⟩
    ·go_simp;have hbA:=(Below.refl _ Z0).alloc (Nat.le_refl _) (.cells #[.slice none 0 0] 24);have HX:=aW (show Blk (Z0.alloc (.cells #[.slice none 0 0] 24)) Z0.heap.size 24 #[.slice none 0 0]∧w5.heap.size≤Z0.heap.size∧True from ⟨Blk.new _ _ _,HZ.out.size,trivial⟩);have hz:=aW (HZ.out.trans (hbA.mono HZ.out.size));clear HZ hbA;have HZ:=hz;clear hz;refine hK.out _ _ (by exact HK.out _ HZ.out) (fun hHeld2=>?_);clear hK K hHeld;have hHeld:=hHeld2;clear hHeld2
     try simp only [pU]
     refine cq (fun Z0b hY=>?_);obtain ⟨b11,hb11⟩:∃ b,Z0.heap.size=b:=⟨_,rfl⟩
     rw [hb11] at HX ⊢;rw [← hY] at HX HZ;clear hY hb11;replace hHeld:=HK.out _ HZ.out;refine aV 0 39 rfl (fun K hK=>?_);go_simp;have hbA:=(Below.refl _ Z0b).alloc (Nat.le_refl _) (.cells #[] 48);have HO:=aW (World.ownsRow_lit (base:=w5.heap.size) (size:=20) (e:=48) Z0b #[] 0 HZ.out.size (by unfold maxLen;omega) rfl);have hx:=aW (show Blk (Z0b.alloc (.cells #[] 48)) b11 24 #[.slice none 0 0]∧w5.heap.size≤b11∧some b11≠some Z0b.heap.size from ⟨HX.out.1.keep hbA,HX.out.2.1,fun e=>by have:=HX.out.1.lt;injection e;omega⟩);clear HX;have hz:=aW (HZ.out.trans (hbA.mono HZ.out.size));clear HZ hbA;have HZ:=hz;clear hz;refine hK.out _ _ (by exact HK.out _ HZ.out) (fun hHeld2=>?_);clear hK K hHeld;have hHeld:=hHeld2;clear hHeld2
     try simp only [pU]
     refine cq (fun Z1b hY=>?_);obtain ⟨rb,hrb⟩:∃ b,Z0b.heap.size=b:=⟨_,rfl⟩
     rw [hrb] at HO hx ⊢;rw [← hY] at HO HZ hx;clear hY hrb;replace hHeld:=HK.out _ HZ.out;have HX:=hx;clear hx;refine aV 3 42 rfl (fun K hK=>?_);rw [if_pos (by kernel_rfl)];refine jK _ (.tmp 39) (.tmp 41) 22 rfl w5.heap.size 48 i0 _ 20 328 Tryz.underlying22 HI.out hz0 hz1 hz2 rfl (by decide) (.slice (some ⟨rb,0,none⟩) 0 0) 0 ([]) (by rfl) HO.out A7 n7 ca7 HQ.out.1 css7.flatten (by rfl) HC7.out.1 (HR7.out _ HZ.out) HC7.out.2 (by unfold maxLen;omega) (by omega) HZ.out.size ?_;intro row2 Z2b hown hgr hob;have ho2:=aW (show Z2b.ownsRow w5.heap.size 48 20 row2 n7 css7.flatten by simpa using hown);have hz:=aW (show Below w5.heap.size w5 Z2b from HZ.out.grown hgr HZ.out.size (fun k e=>(HO.out.lt k e).1));have hx:=aW (show Blk Z2b b11 24 #[.slice none 0 0]∧w5.heap.size≤b11∧some b11≠row2.ownBlock from ⟨HX.out.1.grown hgr HX.out.2.2,HX.out.2.1,fun e=>by
      rcases hob with ho | ho
      ·rw [ho] at e;exact HX.out.2.2 e
      ·rw [ho] at e;have:=HX.out.1.lt;injection e;omega⟩)
     clear HX;clear hown hgr hob HO HZ;have HO:=ho2;have HZ:=hz;clear ho2 hz;have HX:=hx;clear hx;refine hK.out _ _ (by exact HK.out _ HZ.out) (fun hHeld2=>?_);clear hK K hHeld;have hHeld:=hHeld2;clear hHeld2
     try simp only [pU]
     replace hHeld:=HK.out _ HZ.out;refine aV 6 45 rfl (fun K hK=>?_);rw [if_pos (by kernel_rfl)];refine jK _ (.tmp 42) (.tmp 44) 22 rfl w5.heap.size 48 i0 _ 20 328 Tryz.underlying22 HI.out hz0 hz1 hz2 rfl (by decide) (row2) n7 (css7.flatten) (by rfl) HO.out A8 n8 ca8 HQ.out.2 css8.flatten (by rfl) HC8.out.1 (HR8.out _ HZ.out) HC8.out.2 (by unfold maxLen;omega) (by omega) HZ.out.size ?_;intro row3 Z3b hown hgr hob;have ho2:=aW (show Z3b.ownsRow w5.heap.size 48 20 row3 (n7+n8) (css7.flatten++css8.flatten) by simpa using hown);have hz:=aW (show Below w5.heap.size w5 Z3b from HZ.out.grown hgr HZ.out.size (fun k e=>(HO.out.lt k e).1));have hx:=aW (show Blk Z3b b11 24 #[.slice none 0 0]∧w5.heap.size≤b11∧some b11≠row3.ownBlock from ⟨HX.out.1.grown hgr HX.out.2.2,HX.out.2.1,fun e=>by
      rcases hob with ho | ho
      ·rw [ho] at e;exact HX.out.2.2 e
      ·rw [ho] at e;have:=HX.out.1.lt;injection e;omega⟩)
     clear HX;clear hown hgr hob HO HZ;have HO:=ho2;have HZ:=hz;clear ho2 hz;have HX:=hx;clear hx;obtain ⟨RA,rc,rfl,hrc,hrn,hrr⟩:=cx HO.out;have HJ:=aW (show ∃ css,SRs Z3b (fun k=>k≠b11) css (p++q)∧RdF Z3b (fun k=>k≠b11) RA css.flatten∧(p++q).length=n7+n8∧n7+n8≤rc by
      refine ⟨css7++css8,?_,?_,by rw [List.length_append,HNL.out.1,HNL.out.2],hrc⟩
      ·exact (HSR.out _ b11 HZ.out HX.out.2.1).1.append (HSR.out _ b11 HZ.out HX.out.2.1).2
      ·rw [List.flatten_append];intro hne;obtain ⟨b,o,e1,h1,h2,h3⟩:=hrr hne;exact ⟨b,o,e1,h1,fun e=>HX.out.2.2 (by rw [← e,e1];rfl),h3⟩)
     clear hrc hrn hrr;refine hK.out _ _ (by exact HK.out _ HZ.out) (fun hHeld2=>?_);clear hK K hHeld;have hHeld:=hHeld2;clear hHeld2
     try simp only [pU]
     replace hHeld:=HK.out _ HZ.out;refine tA 7 46 (.agg #[.slice RA (n7+n8) rc]) rfl ?_;refine bz (l':=#[true,true,true,true,true,true,true,true,true,false]) (by kernel_rfl) ?_;exact HL _ b11 RA rc rb row2 ⟨HZ,HX,HJ⟩
   case hleaf =>
    rintro Z b11 RA rc rb row2 ⟨HZ,HX,HJ⟩;have hHeld:=HK.out _ HZ.out;refine aU 9 rfl (fun K hK=>?_);obtain ⟨c8,f8,l8⟩:=HX.out.1.rules;go_simp;have hx:=aW (HX.out.1.set_ 0 (.slice RA (n7+n8) rc));have hz:=aW (HZ.out.setCell (p:=⟨b11,0,none⟩) HX.out.2.1 (.slice RA (n7+n8) rc));have hj:=aW (show jM (Z.setCell ⟨b11,0,none⟩ (.slice RA (n7+n8) rc)) RA (n7+n8) rc (p++q) by
     obtain ⟨css,h1,h2,h3⟩:=HJ.out;have hk:ah (fun k=>k≠b11) Z (Z.setCell ⟨b11,0,none⟩ (.slice RA (n7+n8) rc)):=ah.set ah.refl (fun k hk=>hk) 0 _;exact ⟨css,RR.imp h1 fun c x hc=>(hc.keep hk).mono fun _ _ _=>trivial,(h2.keep hk).mono fun _ _ _=>trivial,h3⟩)
    refine hK.out _ _ (by exact HK.out _ hz.out) (fun hHeld2=>?_);clear hK K hHeld c8 f8 l8 HX HZ HJ;have hHeld:=hHeld2;clear hHeld2
    try simp only [pU]
    refine aX ?_;go_wp2;go_meet
    case rel=>exact ⟨b11,RA,rc,_,rfl,rfl,hx,hj,hz⟩
  case rest =>
   obtain ⟨b11,RA,rc,W9,rfl,rfl,HX,HJ,HB9⟩:=hcut;have HW9:=aW (HW5.out.trans (HB9.out.mono HW5.out.size));have hcj:=zr HPQ.out.1.cam HPQ.out.2.cam;have hsj:cJ (p++q)≤4194304:=by rw [zq];have:=HPQ.out.1.sum;have:=HPQ.out.2.sum;omega
   have hmj:=zw HT.out.1.1 HT.out.2.1;have htj:=zu p q;obtain ⟨⟨_,hl1,e1⟩,⟨_,hl2,e2⟩⟩:=HT.out;rw [← e1,← e2] at htj;rw [← e1] at hl1;rw [← e2] at hl2;have HPR:=aW (xp HJ.out (HG.out _ HW9.out) hcj hsj);unfold vr at HPR;have hpj:dG (p++q)=(if 512<(t1++t2).length then ([],3) else (t1++t2,0)):=by unfold dG;rw [if_pos hmj,htj]
   rw [hpj] at HPR;obtain ⟨c8,f8,l8⟩:=HX.out.rules;have HPP:=aW (show (t1++t2).length≤512→cY (t1++t2)=(p++q,0,0) from fun h=>by rw [← htj] at h ⊢;exact pE hmj hcj h);have HLJ:=aW (show (p++q).length≤10 by rw [List.length_append];have:=HPQ.out.1.len;have:=HPQ.out.2.len;omega);have HCJ:=aW hcj;have hla:(t1++t2).length=t1.length+t2.length:=List.length_append;clear hpj htj hmj hsj hcj e1 e2 HI HSR HR7 HR8 HQ HC7 HC8 HK HK0 HPA HPB HP7 HP8 hz0 hz1 hz2;by_cases h5:512<(t1++t2).length
   ·rw [if_pos h5] at HPR;simp only at HPR;have h6:(512:Int)<(t1.length:Int)+(t2.length:Int):=by omega
    have h6b:(512:Int)<((t1.length+t2.length:Nat):Int):=by omega
    clear hla;go_wp2_with (go_at_call 16;refine HPR.out.mono ?_;rintro e w10 ⟨rfl,hb10⟩);go_ret;exact ⟨rfl,HW9.out.trans (hb10.mono HW9.out.size)⟩
   ·rw [if_neg h5] at HPR;simp only at HPR;have h6:¬ (512:Int)<(t1.length:Int)+(t2.length:Int):=by omega
    have h6b:¬ (512:Int)<((t1.length+t2.length:Nat):Int):=by omega
    go_upto_region 12 with (go_at_call 16;refine HPR.out.mono ?_;rintro e w10 ⟨rfl,hb10⟩);have hap:(⟨t1.toArray⟩:ByteArray)++(⟨t2.toArray⟩:ByteArray)=⟨(t1++t2).toArray⟩:=by
     refine rQ ?_;simp [sl,ByteArray.data_append]
    have HB10:=aW (HW9.out.trans (hb10.mono HW9.out.size));have HPX:=aW (xo (W:=w10) ⟨(t1++t2).toArray⟩ (HG.out _ HB10.out) (by show (t1++t2).toArray.size≤_;simp;omega) (o:=(p++q,0,0)) (by rw [ii];exact HPP.out (by omega)));have HX10:=aW (HX.out.keep hb10);have HJ10:=aW (HJ.out.bel hb10);clear hb10 c8 f8 l8 hla h5;go_upto_region 13 with (go_at_call 22;refine HPX.out.mono ?_;rintro e w11 ⟨A5,n5,ca5,rfl,hh5,hb5⟩);obtain ⟨W5,hW5⟩:∃ W',w11.alloc (.cells #[.slice A5 n5 ca5] 24)=W':=⟨_,rfl⟩
    have hb6:Below w11.heap.size w11 W5:=by rw [← hW5];exact (Below.refl _ _).alloc (Nat.le_refl _) _
    have hb46:Below w10.heap.size w10 W5:=hb5.trans (hb6.mono hb5.size);have HB11:=aW (HB10.out.trans (hb46.mono HB10.out.size));have HX5:=aW (show Blk W5 w11.heap.size 24 #[.slice A5 n5 ca5] by rw [← hW5];exact Blk.new _ _ _);have HX6:=aW (HX10.out.keep hb46);have HSM:=aW (tV (hh5.bel hb6) (HJ10.out.bel hb46) HCJ.out (by have:=HLJ.out;omega));rw [hW5];clear hW5 hh5 hb5 hb6 hb46;obtain ⟨c5,f5,l5⟩:=HX5.out.rules;obtain ⟨c6,f6,l6⟩:=HX6.out.rules;go_wp2_with (go_at_call 24;refine HSM.out.mono ?_;rintro e w12 ⟨rfl,hb7⟩);go_ret;exact ⟨rfl,HB11.out.trans (hb7.mono HB11.out.size)⟩
end
end Go.Proofs.YtgmnmnnoahdjnaaGreatDoor
