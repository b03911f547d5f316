import Derived.Test.YtgmnmnnoahdjnaaGreatDoorB29
import Derived.Test.YtgmnmnnoahdjnaaGreatDoorB30
set_option maxRecDepth 100000
set_option maxHeartbeats 16000000
set_option linter.unusedVariables false
set_option linter.unusedSimpArgs false
namespace Go.Proofs.YtgmnmnnoahdjnaaGreatDoor
section
def TG (T:List ak):Prop:=T.length≤1000∧∀ p,(tkT T p).length≤4000∧iw (tkN T p)
instance decIw (n:Int):Decidable (iw n):=by unfold iw;exact inferInstance
theorem vx {n:Int} (h:iw n):df (n8 n):=df.of (by unfold n8 inJ inL;exact ⟨by decide,h,trivial⟩) (by unfold n8 cZ fm eF;simp)
theorem vz {s:List UInt8} (h:s.length≤4000):df (kn s):=df.of (by unfold kn inJ inL;exact ⟨by decide,by decide,trivial⟩) (by unfold kn cZ fm eF;omega)
theorem vy:df (.mk 1 0 [] [] []):=df.of (by unfold inJ inL;exact ⟨by decide,by decide,trivial⟩) (by unfold cZ fm eF;simp)
theorem oQ (b:Bool):df (gF b):=df.of (by unfold gF inJ inL;cases b<;>exact ⟨by decide,by decide,trivial⟩) (by unfold gF cZ fm eF;simp)
theorem jr:df cW:=df.of (by unfold cW inJ inL;exact ⟨by decide,by decide,trivial⟩) (by unfold cW cZ fm eF;simp)
theorem jq {v:JV} (h:df v):bB (eZ v):=by unfold eZ bB gO;exact ⟨by decide,h,by simp,by simp,trivial⟩
theorem fR:bB aZ:=by unfold aZ bB gO;exact ⟨by decide,jr,by simp,by simp,trivial⟩
theorem nN {k:Int} {l:List EJ} (hk:iw k) (hl:l.length≤1000) (h:∀ x ∈ l,bB x):bB (eOp k l):=by
 unfold eOp bB;exact ⟨hk,jr,by simp,by omega,bf.2 h⟩
theorem m6 {T:List ak} {p:Nat}:∀ {l:List (List UInt8 × Int)} {k:Int},fI T p l=some k→∃ x ∈ l,x.2=k∧am T p x.1=true
 | [],k,h=>by cases h
 |x::r,k,h=>by
  unfold fI at h;split at h
  ·rename_i hs;injection h with h;exact ⟨x,List.mem_cons_self,h,hs⟩
  ·obtain ⟨y,hy,h1⟩:=m6 h;exact ⟨y,List.mem_cons_of_mem _ hy,h1⟩
theorem fZ {T:List ak} {lvl p:Nat} {k:Int} (h:dx T lvl p=some k):5≤k∧k≤15:=by
 obtain ⟨x,hx,rfl,_⟩:=m6 h;have:∀ lvl,∀ x ∈ eu lvl,5≤x.2∧x.2≤15:=by
  intro lvl
  match lvl with
  | 0=>simp [eu]
  | 1=>decide
  | 2=>decide
  | 3=>decide
  | 4=>decide
  | 5=>decide
  | 6=>decide
  | 7=>decide
  | n+8=>simp [eu]
 exact this lvl x hx
theorem ry {k:Int} (h:5≤k∧k≤15):iw k:=by unfold iw;omega
section
variable {T:List ak} (hT:WT T) (hG:TG T)
include hT hG
theorem wL:∀ (n:Nat),(∀ lvl p x q,p<T.length→aH T n lvl p=.ok x q→bB x)∧(∀ lvl x p y q,p<T.length→bB x→gy T n lvl x p=.ok y q→bB y)∧(∀ x p y q,p<T.length→bB x→dY T n x p=.ok y q→bB y) ∧
  (∀ p x q,p<T.length→bN T n p=.ok x q→bB x)∧(∀ acc p x q,p<T.length→acc.length≤p→(∀ y ∈ acc,bB y)→dX T n acc p=.ok x q→bB x)
 | 0=>⟨fun lvl p x q _ h=>(by unfold aH at h;cases h),fun lvl x p y q _ _ h=>(by unfold gy at h;cases h),fun x p y q _ _ h=>(by unfold dY at h;cases h),fun p x q _ h=>(by unfold bN at h;cases h),fun acc p x q _ _ _ h=>by unfold dX at h;cases h⟩
 |n+1=>by
  obtain ⟨hE,hB,hP,hA,hL⟩:=wL n;have hI:=fun lvl p (hp:p<T.length)=>(mx hT n).1 lvl p hp
  have hIA:=fun p (hp:p<T.length)=>(mx hT n).2.2.2.1 p hp
  refine ⟨fun lvl p x q hp h=>?_,fun lvl x p y q hp hx h=>?_,fun x p y q hp hx h=>?_,fun p x q hp h=>?_,fun acc p x q hp hl hx h=>?_⟩
  ·unfold aH at h;split at h
   ·cases ho:dx T lvl p with
    | none=>rw [ho] at h;exact hE _ _ _ _ hp h
    |some k =>
     rw [ho] at h;simp only at h;have h0:=hT.next hp (fd ho);cases hx:aH T n lvl (p+1) with
     | bad q=>rw [hx] at h;cases h
     |ok y r =>
      rw [hx] at h;injection h with h1 h2
      subst h1;exact nN (ry (fZ ho)) (by simp) (by simpa using hE _ _ _ _ h0 hx)
   ·split at h
    ·cases hx:bN T n p with
     | bad q=>rw [hx] at h;cases h
     |ok y r =>
      rw [hx] at h;have h1:=hIA p hp;rw [hx] at h1;exact hP _ _ _ _ h1.2 (hA _ _ _ hp hx) h
    ·cases hx:aH T n (lvl+1) p with
     | bad q=>rw [hx] at h;cases h
     |ok y r =>
      rw [hx] at h;have h1:=hI (lvl+1) p hp;rw [hx] at h1;exact hB _ _ _ _ _ h1.2 (hE _ _ _ _ hp hx) h
  ·unfold gy at h;cases ho:dx T lvl p with
   | none=>rw [ho] at h;injection h with h1;subst h1;exact hx
   |some k =>
    rw [ho] at h;simp only at h;have h0:=hT.next hp (fd ho);cases hy:aH T n (lvl+1) (p+1) with
    | bad q=>rw [hy] at h;cases h
    |ok z r =>
     rw [hy] at h;have h1:=hI (lvl+1) (p+1) h0;rw [hy] at h1;have hc:bB (eOp k [x,z]):=nN (ry (fZ ho)) (by simp) (by intro u hu;rcases List.mem_cons.1 hu with rfl | hu;exact hx;obtain rfl:=List.mem_singleton.1 hu;exact hE _ _ _ _ h0 hy);simp only at h;split at h
     ·injection h with h1;subst h1;exact hc
     ·exact hB _ _ _ _ _ h1.2 hc h
  ·unfold dY at h;split at h
   ·rename_i hs
    split at h
    ·rename_i hk
     have h1:=hT.next hp (av hs);have h2:=hT.next h1 (by omega);refine hP _ _ _ _ h2 ?_ h;unfold bB;have:=(hG.2 (p+1)).1;exact ⟨by decide,jr,by omega,by simp,bf.2 (by simpa using hx)⟩
    ·cases h
   ·injection h with h1;subst h1;exact hx
  ·unfold bN at h;have hg:=hG.2 p;split at h
   ·injection h with h1;subst h1
    unfold bB gO;exact ⟨by decide,jr,by omega,by simp,trivial⟩
   split at h
   ·injection h with h1;subst h1;exact jq (vx hg.2)
   split at h
   ·injection h with h1;subst h1;exact jq (vz hg.1)
   split at h
   ·injection h with h1;subst h1;exact jq vy
   split at h
   ·injection h with h1;subst h1;exact jq (oQ true)
   split at h
   ·injection h with h1;subst h1;exact jq (oQ false)
   split at h
   ·rename_i hs
    have h0:=hT.next hp (av hs);cases hx:aH T n 1 (p+1) with
    | bad q=>rw [hx] at h;cases h
    |ok y r =>
     rw [hx] at h;simp only at h;split at h
     ·injection h with h1;subst h1;exact hE _ _ _ _ h0 hx
     ·cases h
   split at h
   ·rename_i hs
    have h0:=hT.next hp (av hs);split at h
    ·injection h with h1;subst h1;exact nN (by decide) (by simp) (by simp)
    ·exact hL _ _ _ _ h0 (by simp) (by simp) h
   ·cases h
  ·unfold dX at h;cases hy:aH T n 1 p with
   | bad q=>rw [hy] at h;cases h
   |ok z r =>
    rw [hy] at h;simp only at h;have h1:=hI 1 p hp;rw [hy] at h1;have hc:∀ u ∈ acc++[z],bB u:=by
     intro u hu;rcases List.mem_append.1 hu with hu | hu
     ·exact hx u hu
     ·obtain rfl:=List.mem_singleton.1 hu;exact hE _ _ _ _ hp hy
    have hlen:(acc++[z]).length≤r:=by have:=h1.1;simp;omega
    split at h
    ·rename_i hs
     exact hL _ _ _ _ (hT.next h1.2 (av hs)) (by omega) hc h
    ·split at h
     ·injection h with h3;subst h3
      exact nN (by decide) (by have:=h1.2;have:=hG.1;omega) hc
     ·cases h
theorem ga {n lvl p:Nat} {x:EJ} {q:Nat} (hp:p<T.length) (h:aH T n lvl p=.ok x q):bB x:=(wL hT hG n).1 _ _ _ _ hp h
theorem wN:∀ (n:Nat),(∀ acc p x q,p<T.length→acc.length≤p→bg acc→bK T n acc p=.ok x q→bg x∧x.length≤q)∧(∀ p x q,p<T.length→bW T n p=.ok x q→bg x∧x.length≤q)
 | 0=>⟨fun acc p x q _ _ _ h=>(by unfold bK at h;cases h),fun p x q _ h=>by unfold bW at h;cases h⟩
 |n+1=>by
  obtain ⟨hS,hK⟩:=wN n;have hIK:=(qY hT n).2;have hIS:=(qY hT n).1;have hsnoc:∀ (acc:List SJ) (x:SJ),bg acc→fG x→bg (acc++[x]):=fun acc x h1 h2=>bZ.2 fun y hy=>by
   rcases List.mem_append.1 hy with hy | hy
   ·exact bZ.1 h1 y hy
   ·obtain rfl:=List.mem_singleton.1 hy;exact h2
  have hTl:=hG.1;refine ⟨fun acc p x q hp hl hx h=>?_,fun p x q hp h=>?_⟩
  ·unfold bK at h;split at h
   ·rename_i hs
    have h0:=hT.next hp (av hs);have g1:=dS hT n 1 (p+1) h0;cases hy:aH T n 1 (p+1) with
    | bad q=>rw [hy] at h;cases h
    |ok a r =>
     rw [hy] at h g1;simp only at h;split at h
     ·rename_i hs2
      have h9:=hT.next g1.2 (av hs2);have g2:=dS hT n 1 (r+1) h9;cases hz:aH T n 1 (r+1) with
      | bad q=>rw [hz] at h;cases h
      |ok b u =>
       rw [hz] at h g2;simp only at h;split at h
       ·rename_i hs3
        have g11:=g1.1;have g21:=g2.1;refine hS _ _ _ _ (hT.next g2.2 (av hs3)) (by simp;omega) (hsnoc _ _ hx ?_) h;unfold fG bg;exact ⟨by decide,by simp,ga hT hG h0 hy,ga hT hG h9 hz,by simp,by simp,trivial,trivial⟩
       ·cases h
     ·cases h
   split at h
   ·rename_i hs
    have h0:=hT.next hp (av hs);have g1:=dS hT n 1 (p+1) h0;cases hy:aH T n 1 (p+1) with
    | bad q=>rw [hy] at h;cases h
    |ok a r =>
     rw [hy] at h g1;simp only at h;have g11:=g1.1;have g2:=hIK r g1.2;cases hz:bW T n r with
     | bad q=>rw [hz] at h;cases h
     |ok body u =>
      rw [hz] at h g2;simp only at h;have g21:=g2.1;have k1:=hK _ _ _ g1.2 hz;split at h
      ·rename_i hs3
       have h9:=hT.next g2.2 (av hs3);have g3:=hIK (u+1) h9;cases hv:bW T n (u+1) with
       | bad q=>rw [hv] at h;cases h
       |ok els t =>
        rw [hv] at h g3;simp only at h;have g31:=g3.1;have k2:=hK _ _ _ h9 hv;refine hS _ _ _ _ g3.2 (by simp;omega) (hsnoc _ _ hx ?_) h;unfold fG;exact ⟨by decide,by simp,ga hT hG h0 hy,fR,by have:=g2.2;have:=k1.2;omega,by have:=g3.2;have:=k2.2;omega,k1.1,k2.1⟩
      ·refine hS _ _ _ _ g2.2 (by simp;omega) (hsnoc _ _ hx ?_) h;unfold fG;exact ⟨by decide,by simp,ga hT hG h0 hy,fR,by have:=g2.2;have:=k1.2;omega,by simp,k1.1,trivial⟩
   split at h
   ·rename_i hs
    have h0:=hT.next hp (av hs);split at h
    ·rename_i hk
     have h8:=hT.next h0 (by omega);split at h
     ·rename_i hs2
      have h9:=hT.next h8 (av hs2);have g1:=dS hT n 1 (p+3) h9;cases hy:aH T n 1 (p+3) with
      | bad q=>rw [hy] at h;cases h
      |ok a r =>
       rw [hy] at h g1;simp only at h;have g11:=g1.1;have g2:=hIK r g1.2;cases hz:bW T n r with
       | bad q=>rw [hz] at h;cases h
       |ok body u =>
        rw [hz] at h g2;simp only at h;have g21:=g2.1;have k1:=hK _ _ _ g1.2 hz;refine hS _ _ _ _ g2.2 (by simp;omega) (hsnoc _ _ hx ?_) h;unfold fG;have:=(hG.2 (p+1)).1;exact ⟨by decide,by omega,ga hT hG h9 hy,fR,by have:=g2.2;have:=k1.2;omega,by simp,k1.1,trivial⟩
     ·cases h
    ·cases h
   ·injection h with h1 h2;subst h1 h2;exact ⟨hx,hl⟩
  ·unfold bW at h;split at h
   ·rename_i hs
    have h0:=hT.next hp (av hs);cases hy:bK T n [] (p+1) with
    | bad q=>rw [hy] at h;cases h
    |ok l r =>
     rw [hy] at h;simp only at h;split at h
     ·injection h with h1 h2;subst h1 h2
      have:=hS [] (p+1) _ _ h0 (by simp) trivial hy;exact ⟨this.1,by omega⟩
     ·cases h
   ·cases h
end
end
section
open Go.RowKit Go.Shelf
attribute [local go_sem] aa ac ae ab
theorem SR.parts {W:World} {F:Nat→Prop} {cs:List Value} {k:Int} {s:List UInt8} {a b:EJ} {body els:List SJ} (h:SR W F cs (.mk k s a b body els)) :
  ∃ (ka kva nva:Int) (sva:ByteArray) (Ava:Option Addr) (nka cka:Nat) (Bva:Option Addr) (nya cya:Nat) (sa:ByteArray) (Ca:Option Addr) (nxa cxa:Nat) (kb kvb nvb:Int) (svb:ByteArray) (Avb:Option Addr) (nkb ckb:Nat) (Bvb:Option Addr) (nyb cyb:Nat) (sb:ByteArray) (Cb:Option Addr) (nxb cxb:Nat) (BA LA:Option Addr) (cb cl:Nat) (bss lss:List (List Value)),cs=[.int .i64 k,.string ⟨s.toArray⟩,.int .i64 ka,.int .i64 kva,.int .i64 nva,.string sva,.slice Ava nka cka,.slice Bva nya cya,.string sa,.slice Ca nxa cxa,.int .i64 kb,.int .i64 kvb,.int .i64 nvb,.string svb,.slice Avb nkb ckb,.slice Bvb nyb cyb,.string sb,.slice Cb nxb cxb,.slice BA body.length cb,.slice LA els.length cl] ∧
   ER W F [.int .i64 ka,.int .i64 kva,.int .i64 nva,.string sva,.slice Ava nka cka,.slice Bva nya cya,.string sa,.slice Ca nxa cxa] a∧ER W F [.int .i64 kb,.int .i64 kvb,.int .i64 nvb,.string svb,.slice Avb nkb ckb,.slice Bvb nyb cyb,.string sb,.slice Cb nxb cxb] b∧(SRs W F bss body∧body.length≤cb∧RdF W F BA bss.flatten)∧(SRs W F lss els∧els.length≤cl∧RdF W F LA lss.flatten):=by
 obtain ⟨acs,bcs,BA,EA',cb,ce,bss,ess,rfl,ha,hbb,⟨g1,g2,g3,g4⟩,g5,g6,g7,g8⟩:=h.out;obtain ⟨ka,kva,nva,sva,Ava,nka,cka,Bva,nya,cya,sa,Ca,nxa,cxa,rfl⟩:=ha.form;obtain ⟨kb,kvb,nvb,svb,Avb,nkb,ckb,Bvb,nyb,cyb,sb,Cb,nxb,cxb,rfl⟩:=hbb.form;exact ⟨ka,kva,nva,sva,Ava,nka,cka,Bva,nya,cya,sa,Ca,nxa,cxa,kb,kvb,nvb,svb,Avb,nkb,ckb,Bvb,nyb,cyb,sb,Cb,nxb,cxb,BA,EA',cb,ce,bss,ess,rfl,ha,hbb,⟨g1,g2,g4⟩,⟨g5,g6,g8⟩⟩
theorem vd:∀ (N:Nat) (x y:SJ),gJ x≤N→∀ (cs cs':List Value) (F F':Nat→Prop) (w:World),SR w F cs x→SR w F' cs' y→fG x→fG y→Calls Tryz.prog 55 #[.agg cs.toArray,.agg cs'.toArray] w (EqX (x=y) w)
 | 0,x,_,h,_,_,_,_,_,_,_,_,_=>by have:=pS x;omega
 |N+1,.mk k s a b body els,.mk k' s' a' b' body' els',hN,cs,cs',F,F',w,hx,hy,hC,hC'=>by
  have ih:=vd N;unfold gJ at hN;unfold fG at hC hC';obtain ⟨_,_,hca,hcb,hbl,hel,hcd,hce⟩:=hC;obtain ⟨_,_,hca',hcb',hbl',hel',hcd',hce'⟩:=hC';have hcd:=bZ.1 hcd;have hce:=bZ.1 hce;have hcd':=bZ.1 hcd';have hce':=bZ.1 hce';obtain ⟨ka,kva,nva,sva,Ava,nka,cka,Bva,nya,cya,sa,Ca,nxa,cxa,kb,kvb,nvb,svb,Avb,nkb,ckb,Bvb,nyb,cyb,sb,Cb,nxb,cxb,BA,LA,cb,cl,bss,lss,rfl,ha,hb,⟨d1,d2,d3⟩,e1,e2,e3⟩:=hx.parts;obtain ⟨ka',kva',nva',sva',Ava',nka',cka',Bva',nya',cya',sa',Ca',nxa',cxa',kb',kvb',nvb',svb',Avb',nkb',ckb',Bvb',nyb',cyb',sb',Cb',nxb',cxb',BA',LA',cb',cl',bss',lss',rfl,ha',hb',⟨d1',d2',d3'⟩,e1',e2',e3'⟩:=hy.parts;have HXA:=aW (fun W (h:Below w.heap.size w W)=>rn _ a a' (Nat.le_refl _) _ _ F F' W (ha.bel h) (ha'.bel h) hca hca');have HXB:=aW (fun W (h:Below w.heap.size w W)=>rn _ b b' (Nat.le_refl _) _ _ F F' W (hb.bel h) (hb'.bel h) hcb hcb');have HBD:=aW (fun W (h:Below w.heap.size w W)=>vc body body' bss bss' BA BA' body.length body'.length cb cb' F F' W rfl rfl hbl hbl' (RR.imp d1 fun c x hc=>hc.bel h) (d3.keep (ah.of_below h)) (RR.imp d1' fun c x hc=>hc.bel h) (d3'.keep (ah.of_below h)) d2 d2'
   (fun x y c c' W2 hx hy hW2 hc hc'=>ih x y (by have:=kc hx;omega) c c' F F' W2 hc hc' (hcd x hx) (hcd' y hy)))
  have HEL:=aW (fun W (h:Below w.heap.size w W)=>vc els els' lss lss' LA LA' els.length els'.length cl cl' F F' W rfl rfl hel hel' (RR.imp e1 fun c x hc=>hc.bel h) (e3.keep (ah.of_below h)) (RR.imp e1' fun c x hc=>hc.bel h) (e3'.keep (ah.of_below h)) e2 e2'
   (fun x y c c' W2 hx hy hW2 hc hc'=>ih x y (by have:=kc hx;omega) c c' F F' W2 hc hc' (hce x hx) (hce' y hy)))
  obtain ⟨nb,hnb⟩:∃ q,body.length=q:=⟨_,rfl⟩
  obtain ⟨nl,hnl⟩:∃ q,els.length=q:=⟨_,rfl⟩
  obtain ⟨nb',hnb'⟩:∃ q,body'.length=q:=⟨_,rfl⟩
  obtain ⟨nl',hnl'⟩:∃ q,els'.length=q:=⟨_,rfl⟩
  rw [hnb,hnb'] at HBD;rw [hnl,hnl'] at HEL;rw [hnb,hnl,hnb',hnl'];have HT0:=aW (gm.new w 48 #[.int .i64 k,.string ⟨s.toArray⟩,.int .i64 ka,.int .i64 kva,.int .i64 nva,.string sva,.slice Ava nka cka,.slice Bva nya cya,.string sa,.slice Ca nxa cxa,.int .i64 kb,.int .i64 kvb,.int .i64 nvb,.string svb,.slice Avb nkb ckb,.slice Bvb nyb cyb,.string sb,.slice Cb nxb cxb,.slice BA nb cb,.slice LA nl cl] #[.int .i64 k',.string ⟨s'.toArray⟩,.int .i64 ka',.int .i64 kva',.int .i64 nva',.string sva',.slice Ava' nka' cka',.slice Bva' nya' cya',.string sa',.slice Ca' nxa' cxa',.int .i64 kb',.int .i64 kvb',.int .i64 nvb',.string svb',.slice Avb' nkb' ckb',.slice Bvb' nyb' cyb',.string sb',.slice Cb' nxb' cxb',.slice BA' nb' cb',.slice LA' nl' cl']);have y1:w.heap.size≠w.heap.size+1:=by omega
  have y2:w.heap.size+1≠w.heap.size:=by omega
  clear hx hy ha hb ha' hb' d1 d2 d3 e1 e2 e3 d1' d2' d3' e1' e2' e3' hcd hce hcd' hce' hca hcb hca' hcb' hnb hnl hnb' hnl' ih hN hbl hel hbl' hel';obtain ⟨PP,hPP⟩:∃ PP:Prop,(SJ.mk k s a b body els=SJ.mk k' s' a' b' body' els')=PP:=⟨_,rfl⟩
  rw [hPP];have HPN:=aW (show (k≠k'∨s≠s'∨a≠a'∨b≠b'∨body≠body'∨els≠els')→¬ PP by
   rw [← hPP];intro h e;injection e with e1 e2 e3 e4 e5 e6
   rcases h with h | h | h | h | h | h
   ·exact h e1
   ·exact h e2
   ·exact h e3
   ·exact h e4
   ·exact h e5
   ·exact h e6)
  have HPY:=aW (show k=k'→s=s'→a=a'→b=b'→body=body'→els=els'→PP by rw [← hPP];rintro rfl rfl rfl rfl rfl rfl;rfl);clear hPP;obtain ⟨c0,f0,l0⟩:=HT0.out.1.rules;obtain ⟨d0,g0,m0⟩:=HT0.out.2.1.rules;by_cases ek:k=k'
  case neg =>
   have HNO:=aW (HPN.out (.inl ek));have hb1:(k == k')=false:=by simp [ek]
   go_enter Tryz.func55,Tryz.ntmps55;go_wp2;go_ret;exact EqX.no HNO.out HT0.out.2.2
  by_cases es:s=s'
  case neg =>
   have HNO:=aW (HPN.out (.inr (.inl es)));have hb1:(s == s')=false:=by simp [es]
   subst ek;go_enter Tryz.func55,Tryz.ntmps55;go_wp2;go_ret;exact EqX.no HNO.out HT0.out.2.2
  subst ek es;go_enter Tryz.func55,Tryz.ntmps55;go_wp2_with fail;refine (HXA.out _ HT0.out.2.2).mono ?_;rintro e w1 ⟨t1,rfl,ht1,hb1⟩;have HT1:=aW (HT0.out.keep hb1);have HE1:=aW ht1;clear hb1 ht1 c0 f0 l0 d0 g0 m0;obtain ⟨c1,f1,l1⟩:=HT1.out.1.rules;obtain ⟨d1,g1,m1⟩:=HT1.out.2.1.rules;cases t1 with
  |false =>
   have HNO:=aW (HPN.out (.inr (.inr (.inl (fun e=>by have:=HE1.out.2 e;cases this)))));go_wp2;go_ret;exact EqX.no HNO.out HT1.out.2.2
  |true =>
   go_wp2_with fail;refine (HXB.out _ HT1.out.2.2).mono ?_;rintro e w2 ⟨t2,rfl,ht2,hb2⟩;have HT2:=aW (HT1.out.keep hb2);have HE2:=aW ht2;clear hb2 ht2 c1 f1 l1 d1 g1 m1;obtain ⟨c2,f2,l2⟩:=HT2.out.1.rules;obtain ⟨d2,g2,m2⟩:=HT2.out.2.1.rules;cases t2 with
   |false =>
    have HNO:=aW (HPN.out (.inr (.inr (.inr (.inl (fun e=>by have:=HE2.out.2 e;cases this))))));go_wp2;go_ret;exact EqX.no HNO.out HT2.out.2.2
   |true =>
    go_wp2_with fail;refine (HBD.out _ HT2.out.2.2).mono ?_;rintro e w3 ⟨t3,rfl,ht3,hb3⟩;have HT3:=aW (HT2.out.keep hb3);have HE3:=aW ht3;clear hb3 ht3 c2 f2 l2 d2 g2 m2;obtain ⟨c3,f3,l3⟩:=HT3.out.1.rules;obtain ⟨d3,g3,m3⟩:=HT3.out.2.1.rules;cases t3 with
    |false =>
     have HNO:=aW (HPN.out (.inr (.inr (.inr (.inr (.inl (fun e=>by have:=HE3.out.2 e;cases this)))))));go_wp2;go_ret;exact EqX.no HNO.out HT3.out.2.2
    |true =>
     go_wp2_with fail;refine (HEL.out _ HT3.out.2.2).mono ?_;rintro e w4 ⟨t4,rfl,ht4,hb4⟩;have HT4:=aW (HT3.out.keep hb4);have HE4:=aW ht4;clear hb4 ht4 c3 f3 l3 d3 g3 m3;obtain ⟨c4,f4,l4⟩:=HT4.out.1.rules;obtain ⟨d4,g4,m4⟩:=HT4.out.2.1.rules;go_wp2;go_ret;refine ⟨t4,rfl,⟨fun h=>HPY.out (by trivial) (by trivial) (HE1.out.1 (by trivial)) (HE2.out.1 (by trivial)) (HE3.out.1 (by trivial)) (HE4.out.1 h),fun h=>?_⟩,HT4.out.2.2⟩;cases t4 with
     | true=>rfl
     | false=>exact absurd h (HPN.out (.inr (.inr (.inr (.inr (.inr (fun e=>by have:=HE4.out.2 e;cases this)))))))
theorem x9 (x y:List SJ) (css css':List (List Value)) (A A':Option Addr) (n n' ca ca':Nat) (F F':Nat→Prop) (w:World) (hS:SRs w F css x) (hR:RdF w F A css.flatten) (hn:x.length=n) (hc:n≤ca) (hS':SRs w F' css' y) (hR':RdF w F' A' css'.flatten) (hn':y.length=n') (hc':n'≤ca') (hC:bg x) (hC':bg y) (hl:n≤4194304) (hl':n'≤4194304) :
  Calls Tryz.prog 24 #[.agg #[.slice A n ca],.agg #[.slice A' n' ca']] w (EqX (x=y) w):=by
 have HEF:=aW (fun W (h:Below w.heap.size w W)=>vc x y css css' A A' n n' ca ca' F F' W hn hn' hl hl' (RR.imp hS fun c x hc=>hc.bel h) (hR.keep (ah.of_below h)) (RR.imp hS' fun c x hc=>hc.bel h) (hR'.keep (ah.of_below h)) hc hc'
  (fun x y c c' W2 hx hy hW2 h1 h2=>vd _ x y (Nat.le_refl _) c c' F F' W2 h1 h2 (bZ.1 hC x hx) (bZ.1 hC' y hy)))
 have HT0:=aW (gm.new w 24 #[.slice A n ca] #[.slice A' n' ca']);have y1:w.heap.size≠w.heap.size+1:=by omega
 have y2:w.heap.size+1≠w.heap.size:=by omega
 clear hS hR hn hc hS' hR' hn' hc' hC hC' hl hl';obtain ⟨c0,f0,l0⟩:=HT0.out.1.rules;obtain ⟨d0,g0,m0⟩:=HT0.out.2.1.rules;go_enter Tryz.func24,Tryz.ntmps24;go_wp2_with fail;refine (HEF.out _ HT0.out.2.2).mono ?_;rintro e w1 ⟨t,rfl,ht,hb⟩;have HB:=aW (HT0.out.2.2.trans (hb.mono HT0.out.2.2.size));have HT:=aW ht;clear hb ht;go_wp2;go_ret;exact ⟨t,rfl,HT.out,HB.out⟩
end
end Go.Proofs.YtgmnmnnoahdjnaaGreatDoor
