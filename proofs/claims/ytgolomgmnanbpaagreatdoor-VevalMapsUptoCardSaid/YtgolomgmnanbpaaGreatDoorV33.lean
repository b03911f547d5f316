import Derived.Test.YtgolomgmnanbpaaGreatDoorV28
open Go.Value renaming int → Zi, slice → Zs, string → Zt, pointer → Zp
open Go.IntKind renaming i64 → Zq
set_option maxRecDepth 100000
set_option maxHeartbeats 16000000
set_option linter.unusedVariables false
set_option linter.unusedSimpArgs false
namespace Go.Proofs.YtgolomgmnanbpaaGreatDoor
section
open Go.RowKit
attribute [local go_sem] aa ac ae ab
mutual
/-- no expression within has too many kids -/
def oV:SJ->Prop | .mk _ _ a b body els=>eq a/\eq b/\ee body/\ee els
def ee:List SJ->Prop | []=>True | x::r=>oV x/\ee r
end
theorem fH:∀ {xs:List SJ},ee xs ↔ ∀ x ∈ xs,oV x
 | []=>by simp [ee]
 | x::r=>by simp [ee,fH (xs:=r)]
theorem SRs.mg {mb:Nat} {a b:Value} {w w1:World} {css:List (List Value)} {l:List SJ} (h:SRs w (PbM mb a w) css l) (g:MG mb a w b w1):SRs w1 (PbM mb b w1) css l:=RR.imp h λ c x hc=>hc.mg g
theorem oc (env:List (List UInt8 × JV)) (st:MSt) (l:List SJ) (x:SJ):goL env st (l++[x])=goS env (goL env st l) x:=by rw [p9,goL,goL]
structure MSx (mb:Nat) (EA:Option Addr) (ec:Nat) (ecs:List (List Value)) (em:Value) (ess:List (List Value)) (env:List (List UInt8 × JV)) (st:MSt) (w:World):Prop where
 own:w.ownsRow (mb+1) 75 10 em st.2.length ess.flatten
 ems:e9 w (PbM mb em w) ess st.2
 bnd:dL w (PbM mb em w) ecs env
 rd:RdF w (PbM mb em w) EA ecs.flatten
 enc:env.length<=ec
 eng:∀ b ∈ env,good b.2=true/\au b.2
 enl:env.length<=4194304
 gob:∃ w0:World,GOE w0/\w0.heap.size<=mb/\Below w0.heap.size w0 w
 few:st.2.length<=4
 cnt:st.1<=256
 emc:∀ e ∈ st.2,au e.1/\au e.2
section
variable {mb:Nat} {EA EA':Option Addr} {ec ec':Nat} {ecs ecs':List (List Value)} {em:Value} {ess:List (List Value)} {env env':List (List UInt8 × JV)} {st:MSt} {w w':World}
theorem MS.x (h:MS mb EA ec ecs em ess env st w):MSx mb EA ec ecs em ess env st w:=⟨h.own,h.ems,h.bnd,h.rd,h.enc,h.eng,h.enl,h.gob,h.few,h.cnt,h.emc⟩
theorem MSx.ms (h:MSx mb EA ec ecs em ess env st w) (hb:Blk w mb 88 #[Zi Zq (st.1:Nat),Zs EA env.length ec,em]):MS mb EA ec ecs em ess env st w:=⟨hb,h.own,h.ems,h.bnd,h.rd,h.enc,h.eng,h.enl,h.gob,h.few,h.cnt,h.emc⟩
theorem MSx.env_ (h:MSx mb EA ec ecs em ess env st w) (h1:dL w (PbM mb em w) ecs' env') (h2:RdF w (PbM mb em w) EA' ecs'.flatten) (h3:env'.length<=ec') (h4:∀ b ∈ env',good b.2=true/\au b.2) (h5:env'.length<=4194304):MSx mb EA' ec' ecs' em ess env' st w :=
 ⟨h.own,h.ems,h1,h2,h3,h4,h5,h.gob,h.few,h.cnt,h.emc⟩
theorem MSx.cnt_ (h:MSx mb EA ec ecs em ess env st w) {p:Nat} (hp:p<=256):MSx mb EA ec ecs em ess env (p,st.2) w:=⟨h.own,h.ems,h.bnd,h.rd,h.enc,h.eng,h.enl,h.gob,h.few,hp,h.emc⟩
theorem MSx.gobB (h:MSx mb EA ec ecs em ess env st w) (hb:Below mb w w'):∃ w0:World,GOE w0/\w0.heap.size<=mb/\Below w0.heap.size w0 w':=by
 obtain ⟨w0,h1,h3,h2⟩:=h.gob;exact ⟨w0,h1,h3,h2.trans (hb.mono h3)⟩
theorem MSx.bel (h:MSx mb EA ec ecs em ess env st w) (hm:mb<w.heap.size) (hb:Below w.heap.size w w'):MSx mb EA ec ecs em ess env st w' :=
 ⟨dG h.own hb,e9.mg h.ems (MG.bel hb),dL.mg h.bnd (MG.bel hb),RdF.mg h.rd (MG.bel hb),h.enc,h.eng,h.enl,h.gobB (hb.mono (Nat.le_of_lt hm)),h.few,h.cnt,h.emc⟩
theorem MSx.set (h:MSx mb EA ec ecs em ess env st w) (hm:mb<w.heap.size) (i:Nat) (u:Value):MSx mb EA ec ecs em ess env st (w.setCell ⟨mb,i,none⟩ u):=by
 have g:MG mb em w em (w.setCell ⟨mb,i,none⟩ u):=(MG.refl mb em w).set i u;exact ⟨h.own.kept (eU (jc w (some mb)) i u) (.inr (λ e=>by have:=(h.own.lt _ e).1;omega)),e9.mg h.ems g,dL.mg h.bnd g,RdF.mg h.rd g,h.enc,h.eng,h.enl,h.gobB (g.below (Nat.le_of_lt hm) (Nat.le_refl _) (λ q e=>by have:=(h.own.lt q e).1;omega)),h.few,h.cnt,h.emc⟩
end
def ep (env:List (List UInt8 × JV)) (s:List UInt8) (body:List SJ) (st:MSt) (x:JV):MSt:=if st.1<256 then goL (env++[(s,x)]) (st.1+1,st.2) body else st
theorem nj {env:List (List UInt8 × JV)} {s:List UInt8} {body:List SJ} {st:MSt} (h:¬ st.1<256):∀ l:List JV,l.foldl (ep env s body) st=st
 | []=>rfl
 | x::r=>by rw [List.foldl_cons,show ep env s body st x=st from if_neg h];exact nj h r
theorem j0 {P:Program} (w:World) {o:Oper} {a:Act} {K:Act->World->Prop} {Q:Exit->Act->World->Prop} (s x:Operand) (t:TypeId)
  (ho:o.op=.call { callee:=.builtin .append,args:=#[s,x],argTypes:=#[t,t] })
  (e:TypeId) (i:TypeInfo) (z:Value) (size bytes:Nat) (ht:P.underlying t=some (.slice e)) (hi:P.info? e=some i) (hz:i.zero=some z)
  (hsize:i.size=size) (hby:i.bytes=bytes) (hzs:z.cells.size=size) (hsz:0<size)
  (b:Addr) (n:Nat) (olds:List Value) (hs:a.eval s=Zs (some b) n n) (hlo:olds.length=n*size) (holds:∀ j u,olds[j]? = some u->w.cell? (b.add j)=some u)
  (ad:Addr) (m c:Nat) (news:List Value) (hx:a.eval x=Zs (some ad) m c) (hl:news.length=m*size) (hnews:∀ j u,news[j]? = some u->w.cell? (ad.add j)=some u) (hm:0<m)
  (h63:n+m<=maxLen) (hbytes:(n+m)*bytes<=140737488355328)
  (h:∀ v' w',w'.ownsRow w.heap.size e size v' (n+m) (olds++news)->w.grownBy w' none->K (a.put o.dst v') w'):o.wp P a w K Q:=by
 obtain ⟨v',w',hrun,h2,h3⟩:=run_append_arg_grows (P:=P) w t o.type e i z size bytes ht hi hz hsize hby hzs hsz b n n olds hlo holds ad m c news hl hnews (by omega) h63 hbytes;unfold Oper.wp execOp;simp only [ho,resolve,invoke,builtin,Sem.run_bind,Sem.run_pure,Result.andThen_ok,List.map_toArray,List.map_cons,List.map_nil,hs,hx,hrun];exact h v' w' h2 h3
theorem kr (b o j:Nat):(⟨b,o,none⟩:Addr).add j=⟨b,o+j,none⟩:=by simp [Addr.add]
theorem nT:(Tryz.prog.info? 37).map (λ i=>(i.zero,i.size,i.bytes))=some (some (.agg #[Zt ⟨#[]⟩,Zi Zq 0,Zi Zq 0,Zt ⟨#[]⟩,Zs none 0 0,Zs none 0 0]),6,96):=by kernel_rfl
def uD (d:Nat):Prop:=∀ (l:List SJ) (mb:Nat) (EA:Option Addr) (ec:Nat) (ecs:List (List Value)) (em:Value) (ess:List (List Value)) (env:List (List UInt8 × JV)) (st:MSt) (w:World) (css:List (List Value)) (A:Option Addr) (n ca:Nat),
 MS mb EA ec ecs em ess env st w->SRs w (PbM mb em w) css l->l.length=n->n<=ca->RdF w (PbM mb em w) A css.flatten->aZ d l=true->bK l->ee l->n<=4194304->env.length+d<=4194304->env≠[] ->
 Calls Tryz.prog 60 #[Zp (some ⟨mb,0,none⟩),Zs A n ca] w (kR mb EA ec ecs em env (goL env st l) w)
theorem pR (d:Nat) (ih:d≠0->uD (d-1)):uD d:=by
 intro l mb EA ec ecs em ess env st w css A n ca hM hS hln hnc hR hmay hC hsm hn henv hne;obtain ⟨eb,eo,rfl,_⟩:=hM.rd (λ e=>by
  have h1:=RR.flat hM.bnd (λ c x h=>h.len);rw [e] at h1;have h2:0<env.length:=List.length_pos_iff.2 hne;simp at h1;omega)
 obtain ⟨ib,hib,hz0b,hz1b,hz2b⟩:=info_parts nT;have HIB:=aW hib;clear hib;have HKD:=aW (And.intro hS hR);have HNK:=aW hln;have HCL:=aW (dg.1 hC);have HSL:=aW (fH.1 hsm);have HML:=aW (ft.1 hmay);have HM0:=aW hM;have HEV:=aW henv;have HNE:=aW hne;have hmb0:mb<w.heap.size:=hM.blk.lt;clear hM hS hln hR hmay hC hsm henv hne;go_enter Tryz.func60,Tryz.ntmps60;go_wp2;go_loopg [16] n (λ gk s16 wr => ∃ (i:Nat) (em1:Value) (es1:List (List Value)),i<=n/\gk=n-i/\s16=Zi Zq (i:Int)/\Hid (MS mb (some ⟨eb,eo,none⟩) ec ecs em1 es1 env (goL env st (l.take i)) wr)/\Hid (MG mb em w em1 wr))
 case atStart=>exact ⟨0,em,ess,Nat.zero_le _,by go_num,rfl,aW (by rw [List.take_zero,goL];exact HM0.out),aW (MG.refl _ _ _)⟩
 case round =>
  obtain ⟨i,em1,es1,hi,hgk,rfl,HM,HG⟩:=hrel;have HGK:=aW hgk;clear hgk;by_cases hin:i<n
  ·obtain ⟨x,hx⟩:∃ x,l[i]? = some x:=⟨_,List.getElem?_eq_getElem (by rw [HNK.out];exact hin)⟩
   have hxm:=List.mem_of_getElem? hx;have hcx:=HCL.out x hxm;have hsx:=HSL.out x hxm;have hmx:=HML.out x hxm;have HTK:=aW (show goL env st (l.take (i+1))=goS env (goL env st (l.take i)) x by rw [List.take_add_one,hx];exact oc _ _ _ _);obtain ⟨sx,hsx2⟩:∃ q,goL env st (l.take i)=q:=⟨_,rfl⟩
   rw [hsx2] at HM HTK;clear hsx2;have hS1:=SRs.mg HKD.out.1 HG.out;have hR1:=RdF.mg HKD.out.2 HG.out;obtain ⟨k,s,a,b,body,els⟩:=x;obtain ⟨bl,o,ka,kva,nva,sva,Ava,nka,cka,Bva,nya,cya,sa,Ca,nxa,cxa,kb,kvb,nvb,svb,Avb,nkb,ckb,Bvb,nyb,cyb,sb,Cb,nxb,cxb,BA,LA,cb,cl,bss,lss,rfl,hbl,_,hEA,hEB,⟨hb1,hb2_,hb3⟩,⟨he1,he2,he3⟩,hSR,hz⟩:=ei hS1 hR1 hx;unfold gI at hcx;unfold oV at hsx;obtain ⟨hik,hsl,hca,hcb,hbl4,hel4,hcbo,hcel⟩:=hcx;obtain ⟨hsa,hsb,hsbo,hsel⟩:=hsx;obtain ⟨nb,hnb⟩:∃ q,body.length=q:=⟨_,rfl⟩
   obtain ⟨nl,hnl⟩:∃ q,els.length=q:=⟨_,rfl⟩
   rw [hnb] at hb2_ hbl4 hz hSR;rw [hnl] at he2 hel4 hz hSR;have hd0:d≠0/\dF a/\(if k=1 then decide (dF b) && decide (s=[]/\body.length+els.length=0) else if k=2 then cq b && (decide (s=[]) && (aZ (d-1) body && aZ (d-1) els)) else if k=3 then cq b && (dN s && (aZ (d-1) body && decide (els.length=0))) else false)=true:=by
    unfold eX at hmx;rw [Bool.and_eq_true,Bool.and_eq_true,decide_eq_true_eq,decide_eq_true_eq] at hmx;exact ⟨hmx.1,hmx.2.1,hmx.2.2⟩
   obtain ⟨hd0,hfa,hmk⟩:=hd0;have HIH:=aW (ih hd0);have HRG:=aW (show wr.rangeAt bl (o+i*20) [Zi Zq k,Zt ⟨s.toArray⟩,Zi Zq ka,Zi Zq kva,Zi Zq nva,Zt sva,Zs Ava nka cka,Zs Bva nya cya,Zt sa,Zs Ca nxa cxa,Zi Zq kb,Zi Zq kvb,Zi Zq nvb,Zt svb,Zs Avb nkb ckb,Zs Bvb nyb cyb,Zt sb,Zs Cb nxb cxb,Zs BA nb cb,Zs LA nl cl] from λ j v hv=>by rw [Nat.add_assoc];exact hz j v hv);have HQ:=aW (And.intro hSR (And.intro hEA (And.intro hEB (And.intro (And.intro hb1 hb3) (And.intro he1 he3)))));have HE:=aW (And.intro hfa (And.intro hca (And.intro hcb (And.intro hsa hsb))));have HBO:=aW (And.intro hcbo (And.intro hcel (And.intro hsbo hsel)));have HMK:=aW hmk;have HNB:=aW hnb;have HNL:=aW hnl;have hlb:bl<wr.heap.size:=hbl;clear hz hSR hEA hEB hb1 hb3 he1 he3 hca hcb hcbo hcel hsa hsb hsbo hsel hnb hnl hx hxm hbl hS1 hR1 hmx hmk hfa;obtain ⟨W1,hW1⟩:∃ W1,wr.alloc (.cells #[Zi Zq k,Zt ⟨s.toArray⟩,Zi Zq ka,Zi Zq kva,Zi Zq nva,Zt sva,Zs Ava nka cka,Zs Bva nya cya,Zt sa,Zs Ca nxa cxa,Zi Zq kb,Zi Zq kvb,Zi Zq nvb,Zt svb,Zs Avb nkb ckb,Zs Bvb nyb cyb,Zt sb,Zs Cb nxb cxb,Zs BA nb cb,Zs LA nl cl] 69)=W1:=⟨_,rfl⟩
   have hbA:Below wr.heap.size wr W1:=by rw [← hW1];exact (Below.refl _ _).alloc (Nat.le_refl _) _
   have HB1:=aW (show Blk W1 wr.heap.size 69 #[Zi Zq k,Zt ⟨s.toArray⟩,Zi Zq ka,Zi Zq kva,Zi Zq nva,Zt sva,Zs Ava nka cka,Zs Bva nya cya,Zt sa,Zs Ca nxa cxa,Zi Zq kb,Zi Zq kvb,Zi Zq nvb,Zt svb,Zs Avb nkb ckb,Zs Bvb nyb cyb,Zt sb,Zs Cb nxb cxb,Zs BA nb cb,Zs LA nl cl] by rw [← hW1];exact Blk.new _ _ _);have HM1:=aW (HM.out.bel hbA);have HA1:=aW hbA;have HW1:=aW hW1;clear hbA hW1;go_upto_block 1 with fail;go_cut [6] (λ s6 wx=>Hid (∃ em2 es2,MS mb (some ⟨eb,eo,none⟩) ec ecs em2 es2 env (goS env sx (.mk k s a b body els)) wx/\MG mb em1 wr em2 wx))
   case first =>
    go_upto_region 2 with fail;go_step;go_step;go_step;go_step;refine wpList_load_mid rfl 69 (.tmp 18) rfl bl (o+i*20) rfl [Zi Zq k,Zt ⟨s.toArray⟩,Zi Zq ka,Zi Zq kva,Zi Zq nva,Zt sva,Zs Ava nka cka,Zs Bva nya cya,Zt sa,Zs Ca nxa cxa,Zi Zq kb,Zi Zq kvb,Zi Zq nvb,Zt svb,Zs Avb nkb ckb,Zs Bvb nyb cyb,Zt sb,Zs Cb nxb cxb,Zs BA nb cb,Zs LA nl cl] _ HRG.out Tryz.underlying69 rfl (by kernel_rfl) ?_;go_step;go_step;go_step;refine bP rfl 69 (.tmp 5) (.tmp 19) rfl _ _ rfl rfl (by kernel_rfl) (by kernel_rfl) (by first | kernel_rfl | simp [Value.oneCell']) ?_;rw [HW1.out];clear HW1 HRG hlb;obtain ⟨c0,f0,l0⟩:=HB1.out.rules;go_upto_block 2 with fail;by_cases hk1:k=1
    ·subst hk1;have HB:=aW (by have h:=HMK.out;rw [if_pos rfl,Bool.and_eq_true,decide_eq_true_eq] at h;exact h.1:dF b);have HC:=aW (xE HM1.out ((HQ.out.1).mg (MG.bel HA1.out)) HE.out.1 HB.out HE.out.2.1 HE.out.2.2.1 HE.out.2.2.2.1 HE.out.2.2.2.2);clear HMK;have HRS:=aW (show W1.rangeAt wr.heap.size 0 [Zi Zq 1,Zt ⟨s.toArray⟩,Zi Zq ka,Zi Zq kva,Zi Zq nva,Zt sva,Zs Ava nka cka,Zs Bva nya cya,Zt sa,Zs Ca nxa cxa,Zi Zq kb,Zi Zq kvb,Zi Zq nvb,Zt svb,Zs Avb nkb ckb,Zs Bvb nyb cyb,Zt sb,Zs Cb nxb cxb,Zs BA nb cb,Zs LA nl cl] from λ j v hv=>by rw [Nat.zero_add];exact (HB1.out.cell j).trans (List.getElem?_toArray.trans hv));go_upto_region 5 with fail;go_step;go_step;go_step;go_step;refine wpList_load_mid rfl 69 (.tmp 5) rfl wr.heap.size 0 rfl [Zi Zq 1,Zt ⟨s.toArray⟩,Zi Zq ka,Zi Zq kva,Zi Zq nva,Zt sva,Zs Ava nka cka,Zs Bva nya cya,Zt sa,Zs Ca nxa cxa,Zi Zq kb,Zi Zq kvb,Zi Zq nvb,Zt svb,Zs Avb nkb ckb,Zs Bvb nyb cyb,Zt sb,Zs Cb nxb cxb,Zs BA nb cb,Zs LA nl cl] _ HRS.out Tryz.underlying69 rfl (by kernel_rfl) ?_;go_wp2_with fail;refine HC.out.mono ?_;rintro e w2 ⟨⟨v,rfl⟩,em2,es2,hM2,hG2⟩;have HX:=aW (show ∃ em2 es2,MS mb (some ⟨eb,eo,none⟩) ec ecs em2 es2 env (goS env sx (.mk 1 s a b body els)) w2/\MG mb em1 wr em2 w2 from ⟨em2,es2,by unfold goS;rw [if_pos rfl];exact hM2,(MG.bel HA1.out).trans hG2⟩);clear hM2 hG2 c0 f0 l0;go_wp2;go_meet
     case rel=>exact HX
    have ek1:(k == 1)=false:=by simp [hk1]
    by_cases hk2:k=2
    ·subst hk2;have HBD:=aW (by have h:=HMK.out;rw [if_neg (by decide),if_pos rfl,Bool.and_eq_true,Bool.and_eq_true,Bool.and_eq_true] at h;exact h.2.2:aZ (d-1) body=true/\aZ (d-1) els=true);have HKC:=aW (show bW (Zp (some ⟨mb,0,none⟩)) (PbM mb em1 W1) env W1 a from λ W' cs' h' hy'=>lG 12 mb (PbM mb em1 W1) env W' a cs' (HM1.out.ok.keep h') HE.out.1 HE.out.2.1 HE.out.2.2.2.1 hy');have HEA1:=aW ((HQ.out.2.1).mg (MG.bel HA1.out));have HBC:=aW (np HKC.out W1 _ (Below.refl _ _) HEA1.out);have HST:=aW (show goS env sx (.mk 2 s a b body els)=(match isB (evE env a) with | some true=>goL env sx body | some false=>goL env sx els | none=>sx) by rw [goS,if_neg (by decide),if_pos rfl];cases isB (evE env a) with | none=>rfl | some t=>cases t<;>rfl);clear HMK;go_wp2_with fail;refine HBC.out.mono ?_;rintro e w2 ⟨t,b2,rfl,ho2,hb2⟩;have HM2:=aW (HM1.out.bel hb2);have HG2:=aW ((MG.bel (mb:=mb) (a:=em1) HA1.out).trans (MG.bel hb2));have HB2:=aW (HB1.out.keep hb2);have HO2:=aW ho2;have hs1:=SRs.mg HQ.out.2.2.2.1.1 HG2.out;have hs2:=RdF.mg HQ.out.2.2.2.1.2 HG2.out;have hs3:=SRs.mg HQ.out.2.2.2.2.1 HG2.out;have hs4:=RdF.mg HQ.out.2.2.2.2.2 HG2.out;have HCB:=aW (HIH.out body mb (some ⟨eb,eo,none⟩) ec ecs em1 es1 env sx w2 bss BA nb cb HM2.out hs1 HNB.out hb2_ hs2 HBD.out.1 HBO.out.1 HBO.out.2.2.1 hbl4 (by have:=HEV.out;omega) HNE.out);have HCE:=aW (HIH.out els mb (some ⟨eb,eo,none⟩) ec ecs em1 es1 env sx w2 lss LA nl cl HM2.out hs3 HNL.out he2 hs4 HBD.out.2 HBO.out.2.1 HBO.out.2.2.2 hel4 (by have:=HEV.out;omega) HNE.out);clear hb2 ho2 hs1 hs2 hs3 hs4 c0 f0 l0;obtain ⟨c0,f0,l0⟩:=HB2.out.rules;cases b2
     ·have HX:=aW (show ∃ em2 es2,MS mb (some ⟨eb,eo,none⟩) ec ecs em2 es2 env (goS env sx (.mk 2 s a b body els)) w2/\MG mb em1 wr em2 w2 from ⟨em1,es1,by rw [HST.out,HO2.out];exact HM2.out,HG2.out⟩);go_wp2;go_meet
      case rel=>exact HX
     ·cases t
      ·go_wp2_with fail;refine HCE.out.mono ?_;rintro e w3 ⟨⟨v,rfl⟩,em3,es3,hM3,hG3⟩;have HX:=aW (show ∃ em2 es2,MS mb (some ⟨eb,eo,none⟩) ec ecs em2 es2 env (goS env sx (.mk 2 s a b body els)) w3/\MG mb em1 wr em2 w3 from ⟨em3,es3,by rw [HST.out,HO2.out];exact hM3,HG2.out.trans hG3⟩);clear hM3 hG3 c0 f0 l0;go_wp2;go_meet
       case rel=>exact HX
      ·go_wp2_with fail;refine HCB.out.mono ?_;rintro e w3 ⟨⟨v,rfl⟩,em3,es3,hM3,hG3⟩;have HX:=aW (show ∃ em2 es2,MS mb (some ⟨eb,eo,none⟩) ec ecs em2 es2 env (goS env sx (.mk 2 s a b body els)) w3/\MG mb em1 wr em2 w3 from ⟨em3,es3,by rw [HST.out,HO2.out];exact hM3,HG2.out.trans hG3⟩);clear hM3 hG3 c0 f0 l0;go_wp2;go_meet
       case rel=>exact HX
    have ek2:(k == 2)=false:=by simp [hk2]
    have hk3:k=3:=by
     have h:=HMK.out;rw [if_neg hk1,if_neg hk2] at h;by_cases h3:k=3
     ·exact h3
     ·rw [if_neg h3] at h;cases h
    subst hk3;have HBD:=aW (by have h:=HMK.out;rw [if_neg (by decide),if_neg (by decide),if_pos rfl,Bool.and_eq_true,Bool.and_eq_true,Bool.and_eq_true] at h;exact h.2.2.1:aZ (d-1) body=true);have HEA1:=aW ((HQ.out.2.1).mg (MG.bel HA1.out));have HEX:=aW (lG 12 mb (PbM mb em1 W1) env W1 a _ HM1.out.ok HE.out.1 HE.out.2.1 HE.out.2.2.2.1 HEA1.out);have HST:=aW (show goS env sx (.mk 3 s a b body els)=(match evE env a with | some v=>if 5<=v.kind then v.kids.foldl (ep env s body) sx else sx | none=>sx) by rw [goS,if_neg (by decide),if_neg (by decide)];rfl);clear HMK hk1 hk2;go_wp2_with fail;refine HEX.out.mono ?_;rintro e w2 ⟨cs2,v2,b2,rfl,hv2,hc2,ho2,hg2,hb2⟩;have HV2:=aW (HM1.out.fresh (hv2.bel ((Below.refl _ w2).alloc (Nat.le_refl _) (.cells cs2.toArray 25))) (by have:=hb2.size;simp;omega));obtain ⟨k5,n5,s5,vkids,vkeys⟩:=v2;obtain ⟨VA,VB,va,vb,vcss,rfl,hvs,hva,_,_,_,hra,_⟩:=hv2.out;obtain ⟨nk,hnk⟩:∃ q,vkids.length=q:=⟨_,rfl⟩
    obtain ⟨ny5,hny5⟩:∃ q,vkeys.length=q:=⟨_,rfl⟩
    have hkl:nk<=4194304:=by rw [← hnk];exact hc2.out.2.2.2.1
    have HKN:=aW hnk;rw [hnk,hny5] at HV2 ⊢;rw [hnk] at hva;obtain ⟨W3,hW3⟩:∃ W3,w2.alloc (.cells #[Zi Zq k5,Zi Zq n5,Zt ⟨s5.toArray⟩,Zs VA nk va,Zs VB ny5 vb] 25)=W3:=⟨_,rfl⟩
    have hb23:Below w2.heap.size w2 W3:=by rw [← hW3];exact (Below.refl _ _).alloc (Nat.le_refl _) _
    have hb13:Below W1.heap.size W1 W3:=hb2.trans (hb23.mono hb2.size);have hs3:W3.heap.size=w2.heap.size+1:=by rw [← hW3];simp
    have HX2:=aW (Blk.new w2 25 #[Zi Zq k5,Zi Zq n5,Zt ⟨s5.toArray⟩,Zs VA nk va,Zs VB ny5 vb]);rw [hW3] at HV2 HX2;have HM3:=aW (HM1.out.bel hb13);have HG3:=aW ((MG.bel (mb:=mb) (a:=em1) HA1.out).trans (MG.bel hb13));have HB3:=aW (HB1.out.keep hb13);have HVS:=aW (show VRs W3 (PbM mb em1 W3) vcss vkids/\RdF W3 (PbM mb em1 W3) VA vcss.flatten by
     obtain ⟨A',B',ca',cb',css',e',h1',_,_,_,_,h6',_⟩:=(show VR W3 (PbM mb em1 W3) [Zi Zq k5,Zi Zq n5,Zt ⟨s5.toArray⟩,Zs VA nk va,Zs VB ny5 vb] (.mk k5 n5 s5 vkids vkeys) from HV2.out).out;have hsz:w2.heap.size<=W3.heap.size:=by omega
     have hf:∀ q,q<w2.heap.size->FN (PbM mb em1 W1) W1 q->PbM mb em1 W3 q:=λ q hq hF=>by
      rcases hF with hF | hF
      ·exact ⟨by omega,hF.2⟩
      ·exact ⟨by omega,by have:=HM1.out.blk.lt;omega,λ e=>by have:=(HM1.out.own.lt q e.symm).2;omega⟩
     exact ⟨(hvs.mono hf).keep ⟨hsz,λ q _ hq=>hb23.block q hq⟩,(hra.mono hf).keep ⟨hsz,λ q _ hq=>hb23.block q hq⟩⟩)
    have HQ2:=aW (And.intro hc2 (And.intro ho2 hg2));have HW3:=aW hW3;clear hv2 hc2 ho2 hg2 hb2 hvs hra hnk hny5 hb23 hb13 hs3 hW3 c0 f0 l0;have HSTOP:=aW (show ∀ wz,Below W3.heap.size W3 wz->sx=goS env sx (.mk 3 s a b body els)->∃ em2 es2,MS mb (some ⟨eb,eo,none⟩) ec ecs em2 es2 env (goS env sx (.mk 3 s a b body els)) wz/\MG mb em1 wr em2 wz from λ wz hz he=>⟨em1,es1,by rw [← he];exact HM3.out.bel hz,HG3.out.trans (MG.bel hz)⟩);cases b2
    ·have HX:=aW (HSTOP.out W3 (Below.refl _ _) (by rw [HST.out,HQ2.out.2.1];rfl));go_upto_region 14 with fail;rw [HW3.out];go_wp2;go_meet
     case rel=>exact HX
    have HST2:=aW (show goS env sx (.mk 3 s a b body els)=(if 5<=k5 then vkids.foldl (ep env s body) sx else sx) by rw [HST.out,HQ2.out.2.1];rfl);by_cases h5:k5<5
    ·have HX:=aW (HSTOP.out W3 (Below.refl _ _) (by rw [HST2.out,if_neg (by omega)]));go_upto_region 14 with fail;rw [HW3.out];obtain ⟨c0,f0,l0⟩:=HX2.out.rules;go_wp2;go_meet
     case rel=>exact HX
    have HST3:=aW (show goS env sx (.mk 3 s a b body els)=vkids.foldl (ep env s body) sx by rw [HST2.out,if_pos (by omega)]);have hmf:∀ (fn:Fn) (first cap:Array Value) (w:World),(Instr.makeFunc fn first cap).run Tryz.prog w=.ok (.func fn first cap) w:=λ _ _ _ _=>rfl
    obtain ⟨ne,hne9⟩:∃ q,env.length=q:=⟨_,rfl⟩
    have HNL9:=aW hne9;have hc3:=HM3.out.blk.rules;rw [hne9] at hc3;obtain ⟨c1,f1,l1⟩:=hc3;go_upto_region 14 with fail;rw [HW3.out];obtain ⟨c0,f0,l0⟩:=HX2.out.rules;go_wp2;go_quiet (fail);obtain ⟨W4,hW4⟩:∃ W4,W3.drewN nq=W4:=⟨_,rfl⟩
    have hb34:Below W3.heap.size W3 W4:=by rw [← hW4];exact av (Below.refl _ _) nq
    have HB34:=aW hb34;have HM4:=aW (HM3.out.bel hb34);rw [hW4];clear hW4 hb34 c0 f0 l0 c1 f1 l1;obtain ⟨c0,f0,l0⟩:=(HX2.out.keep HB34.out).rules;go_wp2;clear c0 f0 l0;obtain ⟨wq,rfl⟩:∃ wq:World,wq=wr:=⟨_,rfl⟩
    go_loopg [76] nk (λ gk s76 wr => ∃ (j:Nat) (em2:Value) (es2:List (List Value)) (ev:Value),j<=nk/\gk=nk-j/\s76=Zi Zq (j:Int)/\Hid (Blk wr mb 88 #[Zi Zq (((vkids.take j).foldl (ep env s body) sx).1:Nat),ev,em2])/\Hid (MSx mb (some ⟨eb,eo,none⟩) ec ecs em2 es2 env ((vkids.take j).foldl (ep env s body) sx) wr)/\Hid (MG mb em1 W4 em2 wr))
    case atStart=>exact ⟨0,em1,es1,_,Nat.zero_le _,by go_num,rfl,aW (by rw [List.take_zero];exact HM4.out.blk),aW (by rw [List.take_zero];exact HM4.out.x),aW (MG.refl _ _ _)⟩
    case round =>
     obtain ⟨j,em2,es2,ev,hj,hgk,rfl,HBL,HX3,HGW⟩:=hrel;have HGJ:=aW hgk;obtain ⟨stj,hstj⟩:∃ q,(vkids.take j).foldl (ep env s body) sx=q:=⟨_,rfl⟩
     have HSJ:=aW hstj;rw [hstj] at HBL HX3;clear hgk hstj;have hmx:mb<wr.heap.size:=HBL.out.lt;have hwr4:wq.heap.size<W4.heap.size:=(HB3.out.keep HB34.out).lt;have hwx4:W4.heap.size<=wr.heap.size:=HGW.out.size;have hmo1:∀ q,em1.ownBlock=some q->q<wq.heap.size:=λ q e=>(HM.out.own.lt q e).2
     have hmo2:∀ q,em2.ownBlock=some q->mb+1<=q/\q≠wq.heap.size/\q<wr.heap.size:=λ q e=>by
      have h1:=HX3.out.own.lt q e;refine ⟨h1.1,?_,h1.2⟩;rcases HGW.out.own with h2 | ⟨r,h2,h3⟩
      ·have:=hmo1 q (by rw [← h2];exact e);omega
      ·rw [e] at h2;injection h2 with h2;omega
     have hmwr:mb<wq.heap.size:=HM.out.blk.lt;have HMO:=aW hmo2;have HBW:=aW (HGW.out.blk (HB3.out.keep HB34.out) (by omega) (λ e=>by have:=hmo1 _ e.symm;omega));have HEND:=aW (show ∀ wz,Below wr.heap.size wr wz->goS env sx (.mk 3 s a b body els)=stj->∃ em2 es2,MS mb (some ⟨eb,eo,none⟩) ec ecs em2 es2 env (goS env sx (.mk 3 s a b body els)) (wz.setCell ⟨mb,1,none⟩ (Zs (some ⟨eb,eo,none⟩) ne ec))/\MG mb em1 wq em2 (wz.setCell ⟨mb,1,none⟩ (Zs (some ⟨eb,eo,none⟩) ne ec)) from λ wz hz he=>by
      rw [he];refine ⟨em2,es2,((HX3.out.bel hmx hz).set (Nat.lt_of_lt_of_le hmx hz.size) 1 _).ms (by rw [HNL9.out];exact (HBL.out.keep hz).set_ 1 _),?_⟩;exact ((HG3.out.trans (MG.bel HB34.out)).trans (HGW.out.trans (MG.bel hz))).set 1 _)
     clear hmo1 hmo2;by_cases hjn:j<nk;rotate_left
     ·obtain rfl:j=nk:=by omega
      have HX:=aW (HEND.out wr (Below.refl _ _) (by rw [HST3.out,← HSJ.out,List.take_of_length_le (Nat.le_of_eq HKN.out)]));obtain ⟨c9,f9,l9⟩:=HBL.out.rules;go_wp2;go_meet
      case rel=>exact HX
     obtain ⟨x,hx⟩:∃ x,vkids[j]? = some x:=⟨_,List.getElem?_eq_getElem (by rw [HKN.out];exact hjn)⟩
     have hxm:=List.mem_of_getElem? hx;have hgx:good x=true/\au x:=⟨eN (v:=.mk k5 n5 s5 vkids vkeys) (HQ2.out.2.2 (by first | rfl | trivial)) hxm,HQ2.out.1.out.2.2.2.2.2.2 x hxm⟩
     have HGX:=aW hgx;have g4x:MG mb em1 W3 em2 wr:=(MG.bel HB34.out).trans HGW.out;have hvk:VRs wr (PbM mb em2 wr) vcss vkids:=(HVS.out.1.keep g4x.keepF).mono λ _ _ hb=>g4x.pb hb
     obtain ⟨kb9,ko9,kx,nx,sx5,Ax,nax,cax,Bx,nbx,cbx,rfl,hkb,hvx,hkz⟩:=aS hvk (RdF.mg HVS.out.2 g4x) hx;obtain ⟨z0,z1,z2,z3,z4⟩:=hkz wr (Below.refl _ _);have HVX:=aW hvx;have hbA:=(Below.refl wr.heap.size wr).alloc (Nat.le_refl _) (.cells #[Zi Zq kx,Zi Zq nx,Zt sx5,Zs Ax nax cax,Zs Bx nbx cbx] 25);obtain ⟨W5,hW5⟩:∃ W5,wr.alloc (.cells #[Zi Zq kx,Zi Zq nx,Zt sx5,Zs Ax nax cax,Zs Bx nbx cbx] 25)=W5:=⟨_,rfl⟩
     rw [hW5] at hbA;have HB5:=aW hbA;have HXB:=aW (show Blk W5 wr.heap.size 25 #[Zi Zq kx,Zi Zq nx,Zt sx5,Zs Ax nax cax,Zs Bx nbx cbx] by rw [← hW5];exact Blk.new _ _ _);have HW5:=aW hW5;have hs5:W5.heap.size=wr.heap.size+1:=by rw [← hW5];simp
     have hbg:=ta mb stj.1 ev em2 W5 (HBL.out.keep hbA) HX3.out.cnt;unfold wN at hbg;by_cases hp:stj.1<256;rotate_left
     ·rw [decide_eq_false hp,if_neg hp] at hbg;have HBG:=aW hbg;have HX:=aW (HEND.out W5 HB5.out (by
       rw [HST3.out];have h1:vkids.foldl (ep env s body) sx=(vkids.drop j).foldl (ep env s body) stj:=by rw [← HSJ.out,← List.foldl_append,List.take_append_drop]
       rw [h1,nj hp]))
      obtain ⟨c9,f9,l9⟩:=(HBL.out.keep hbA).rules;clear hbg hp hvk g4x hkz hvx hx hxm hgx hbA hW5;go_upto_region 19 with fail;rw [HW5.out];go_wp2_with fail;refine HBG.out.mono ?_;rintro e w6 ⟨rfl,rfl⟩;go_wp2;go_meet
      case rel=>exact HX
     rw [decide_eq_true hp,if_pos hp] at hbg;have HBG:=aW hbg;have HTJ:=aW (show (vkids.take (j+1)).foldl (ep env s body) sx=goL (env++[(s,x)]) (stj.1+1,stj.2) body by
      rw [List.take_add_one,hx];show (vkids.take j++[x]).foldl (ep env s body) sx=_
      rw [List.foldl_append,HSJ.out];exact if_pos hp)
     have hp1:stj.1+1<=256:=hp;clear hbg hvk g4x hkz hvx hx hxm hgx hp hW5;go_upto_region 19 with fail;rw [HW5.out];clear z0 z1 z2 z3 z4 hkb;go_wp2_with fail;refine HBG.out.mono ?_;rintro e w6 ⟨rfl,rfl⟩;have HX5:=aW (((HX3.out.bel hmx hbA).set (by omega) 0 (Zi Zq ((stj.1+1:Nat):Int))).cnt_ hp1);have HBL5:=aW ((HBL.out.keep hbA).set_ 0 (Zi Zq ((stj.1+1:Nat):Int)));have HG5:=aW ((MG.bel (mb:=mb) (a:=em2) hbA).set 0 (Zi Zq ((stj.1+1:Nat):Int)));have hnec:¬ ec<ne:=by have:=HX3.out.enc;rw [HNL9.out] at this;omega
     have HSP:=aW (And.intro ((HBW.out.keep hbA).far (p:=⟨mb,0,none⟩) (by show wq.heap.size≠mb;omega) (Zi Zq ((stj.1+1:Nat):Int))) (HXB.out.far (p:=⟨mb,0,none⟩) (by show wr.heap.size≠mb;omega) (Zi Zq ((stj.1+1:Nat):Int))));clear hbA;go_upto_region 20 with fail;refine wp_region_held_drew (S:=λ W'=>Blk W' wq.heap.size 69 #[Zi Zq 3,Zt ⟨s.toArray⟩,Zi Zq ka,Zi Zq kva,Zi Zq nva,Zt sva,Zs Ava nka cka,Zs Bva nya cya,Zt sa,Zs Ca nxa cxa,Zi Zq kb,Zi Zq kvb,Zi Zq nvb,Zt svb,Zs Avb nkb ckb,Zs Bvb nyb cyb,Zt sb,Zs Cb nxb cxb,Zs BA nb cb,Zs LA nl cl]/\Blk W' wr.heap.size 25 #[Zi Zq kx,Zi Zq nx,Zt sx5,Zs Ax nax cax,Zs Bx nbx cbx]) (by kernel_rfl) (by exact ⟨HSP.out.1.drew,HSP.out.2.drew⟩) (λ hHeld=>?_);refine az (λ w9 hw9=>?_);have h59:Below (W5.setCell ⟨mb,0,none⟩ (Zi Zq ((stj.1+1:Nat):Int))).heap.size (W5.setCell ⟨mb,0,none⟩ (Zi Zq ((stj.1+1:Nat):Int))) w9:=by rw [hw9];exact (Below.refl _ _).drew
     have HS9:=aW (And.intro (HSP.out.1.keep h59) (HSP.out.2.keep h59));have HX9:=aW (HX5.out.bel (Nat.lt_of_lt_of_le hmx HG5.out.size) h59);have HB9:=aW (HBL5.out.keep h59);have HG4:=aW (HG5.out.trans (MG.bel h59));have HB4:=aW HS9.out.1;have HN4:=aW (show wq.heap.size≠mb/\some wq.heap.size≠em2.ownBlock from ⟨by omega,λ e=>(HMO.out _ e.symm).2.1 rfl⟩);have HN9:=aW (show wq.heap.size≠mb/\wr.heap.size≠mb by omega);have gw9:MG mb em1 wq em2 w9:=(HG3.out.trans (MG.bel HB34.out)).trans (HGW.out.trans HG4.out);have HSB:=aW (And.intro (SRs.mg HQ.out.2.2.2.1.1 gw9) (RdF.mg HQ.out.2.2.2.1.2 gw9));have HFL:=aW (show ecs.flatten.length=ne*6 by rw [RR.flat HX9.out.bnd (λ c x h=>h.len),HNL9.out]);have HEB:=aW (show (⟨eb,eo,none⟩:Addr).block<w9.heap.size/\∀ j u,ecs.flatten[j]? = some u->w9.cell? ((⟨eb,eo,none⟩:Addr).add j)=some u by
      have hfl:ecs.flatten≠[]:=λ e=>by
       have h1:=HFL.out;rw [e] at h1;have h2:0<env.length:=List.length_pos_iff.2 HNE.out;rw [HNL9.out] at h2;simp at h1;omega
      obtain ⟨b',o',e,hb',_,hc⟩:=HX9.out.rd hfl;injection e with e;injection e with e1 e2;subst e1 e2
      refine ⟨hb',λ j u hu=>?_⟩;obtain ⟨hj,rfl⟩:=List.getElem?_eq_some_iff.1 hu;rw [kr];exact hc j hj)
     have hne4:ne+1<=4194304:=by have:=HEV.out;rw [HNL9.out] at this;omega
     have HFIN:=aW (λ (A2:Option Addr) (e2c:Nat) (W2 W6:World) (hW:W2=w9.alloc (.cells #[Zt ⟨s.toArray⟩,Zi Zq kx,Zi Zq nx,Zt sx5,Zs Ax nax cax,Zs Bx nbx cbx] 37)) (hc2:ne+1<=e2c) (hrd2:RdF W6 (λ b=>W2.heap.size<=b) A2 (ecs.flatten++[Zt ⟨s.toArray⟩,Zi Zq kx,Zi Zq nx,Zt sx5,Zs Ax nax cax,Zs Bx nbx cbx])) (hgr:W2.grownBy W6 none) =>
      show Blk W6 mb 88 #[Zi Zq ((stj.1+1:Nat):Int),ev,em2]/\(MS mb A2 e2c (ecs++[[Zt ⟨s.toArray⟩,Zi Zq kx,Zi Zq nx,Zt sx5,Zs Ax nax cax,Zs Bx nbx cbx]]) em2 es2 (env++[(s,x)]) (stj.1+1,stj.2) (W6.setCell ⟨mb,1,none⟩ (Zs A2 (ne+1) e2c))/\MG mb em2 w9 em2 (W6.setCell ⟨mb,1,none⟩ (Zs A2 (ne+1) e2c))) from by
       have hbel:Below w9.heap.size w9 W2:=by rw [hW];exact (Below.refl _ _).alloc (Nat.le_refl _) _
       have h26:Below W2.heap.size W2 W6:=(Below.refl _ W2).grown hgr (Nat.le_refl _) (λ k e=>by cases e);have h96:Below w9.heap.size w9 W6:=hbel.trans (h26.mono hbel.size);have hm9:mb<w9.heap.size:=HB9.out.lt;have g:MG mb em2 w9 em2 (W6.setCell ⟨mb,1,none⟩ (Zs A2 (ne+1) e2c)):=(MG.bel h96).set 1 _;have hl1:(env++[(s,x)]).length=ne+1:=by rw [List.length_append,HNL9.out];rfl
       refine ⟨HB9.out.keep h96,?_,g⟩;have X2:=(HX9.out.bel hm9 h96).set (Nat.lt_of_lt_of_le hm9 h96.size) 1 (Zs A2 (ne+1) e2c);refine (X2.env_ (X2.bnd.snoc ⟨[Zi Zq kx,Zi Zq nx,Zt sx5,Zs Ax nax cax,Zs Bx nbx cbx],rfl,VR.mg (VR.mg HVX.out HG4.out) g⟩) ?_ (by rw [hl1];exact hc2) ?_ (by rw [hl1];exact hne4)).ms (by rw [hl1];exact (HB9.out.keep h96).set_ 1 _)
       ·rw [List.flatten_append,show ([[Zt ⟨s.toArray⟩,Zi Zq kx,Zi Zq nx,Zt sx5,Zs Ax nax cax,Zs Bx nbx cbx]]:List (List Value)).flatten=[Zt ⟨s.toArray⟩,Zi Zq kx,Zi Zq nx,Zt sx5,Zs Ax nax cax,Zs Bx nbx cbx] from rfl];refine (hrd2.mono (F':=λ b=>W2.heap.size<=b/\b<W6.heap.size) λ b hb h=>⟨h,hb⟩).keep (af.refl.set (λ b hb=>by have:=hb.1;have:=hbel.size;omega) 1 _) |>.mono λ b hb h=>?_
        have hb2:=hbel.size;exact ⟨by simpa using h.2,by omega,λ e=>by have:=(HX9.out.own.lt b e.symm).2;omega⟩
       ·intro y hy;rcases List.mem_append.1 hy with hy | hy
        ·exact HX9.out.eng y hy
        ·obtain rfl:=List.mem_singleton.1 hy;exact HGX.out)
     clear gw9 h59 hw9 hHeld;have hHeld:=HS9.out;refine tA 0 83 (Zp (some ⟨mb,0,none⟩)) rfl ?_;refine tA 1 84 (Zs (some ⟨eb,eo,none⟩) ne ec) rfl ?_;refine tA 2 85 (Zs (some ⟨eb,eo,none⟩) ne ec) rfl ?_;refine tA 3 86 (Zi Zq (ne:Int)) rfl ?_;refine tA 4 87 (Zs (some ⟨eb,eo,none⟩) ne ec) rfl ?_;refine tA 5 88 (Zi Zq (ne:Int)) rfl ?_;refine tA 6 89 (Zs (some ⟨eb,eo,none⟩) ne ne) rfl ?_;refine tA 7 90 (Zp (some ⟨wq.heap.size,1,none⟩)) rfl ?_;refine aY 8 91 (Zt ⟨s.toArray⟩) rfl ?_ ?_
     ·intro W hSw;obtain ⟨c8,f8,l8⟩:=hSw.1.rules;go_simp
     refine aY 9 92 (.agg #[Zi Zq kx,Zi Zq nx,Zt sx5,Zs Ax nax cax,Zs Bx nbx cbx]) rfl ?_ ?_
     ·intro W hSw;obtain ⟨c8,f8,l8⟩:=hSw.2.rules;go_simp
     refine tA 10 93 (.agg #[Zt ⟨s.toArray⟩,Zi Zq kx,Zi Zq nx,Zt sx5,Zs Ax nax cax,Zs Bx nbx cbx]) rfl ?_;refine aV 11 94 rfl (λ K hK=>?_);go_simp;refine hK.out _ _ (by exact ⟨Blk.alloc HS9.out.1 _,Blk.alloc HS9.out.2 _⟩) (λ hHeld2=>?_);clear hK K
     try simp only [pU]
     refine az (λ W2 hW=>?_);have hW2:=aW hW;have HS2:=aW (show Blk W2 wq.heap.size 69 #[Zi Zq 3,Zt ⟨s.toArray⟩,Zi Zq ka,Zi Zq kva,Zi Zq nva,Zt sva,Zs Ava nka cka,Zs Bva nya cya,Zt sa,Zs Ca nxa cxa,Zi Zq kb,Zi Zq kvb,Zi Zq nvb,Zt svb,Zs Avb nkb ckb,Zs Bvb nyb cyb,Zt sb,Zs Cb nxb cxb,Zs BA nb cb,Zs LA nl cl]/\Blk W2 wr.heap.size 25 #[Zi Zq kx,Zi Zq nx,Zt sx5,Zs Ax nax cax,Zs Bx nbx cbx] by rw [hW];exact ⟨Blk.alloc HS9.out.1 _,Blk.alloc HS9.out.2 _⟩);have HHO:=aW (show ∀ j u,ecs.flatten[j]? = some u->W2.cell? ((⟨eb,eo,none⟩:Addr).add j)=some u by rw [hW];exact λ j u hu=>(((Below.refl _ w9).alloc (Nat.le_refl _) (.cells #[Zt ⟨s.toArray⟩,Zi Zq kx,Zi Zq nx,Zt sx5,Zs Ax nax cax,Zs Bx nbx cbx] 37)).cell (p:=(⟨eb,eo,none⟩:Addr).add j) (by rw [kr];exact HEB.out.1)).trans (HEB.out.2 j u hu));have HHN:=aW (show ∀ j u,([Zt ⟨s.toArray⟩,Zi Zq kx,Zi Zq nx,Zt sx5,Zs Ax nax cax,Zs Bx nbx cbx]:List Value)[j]? = some u->W2.cell? ((⟨w9.heap.size,0,none⟩:Addr).add j)=some u by rw [hW];exact λ j u hu=>by rw [show ((⟨w9.heap.size,0,none⟩:Addr).add j)=⟨w9.heap.size,0+j,none⟩ from kr _ _ _,Nat.zero_add,(Blk.new w9 37 #[Zt ⟨s.toArray⟩,Zi Zq kx,Zi Zq nx,Zt sx5,Zs Ax nax cax,Zs Bx nbx cbx]).cell];exact List.getElem?_toArray.trans hu);clear hW hHeld2;have hHeld:=HS2.out;refine aV 12 95 rfl (λ K hK=>?_);rw [if_pos (by kernel_rfl)];refine j0 _ (.tmp 89) (.tmp 94) 29 rfl 37 ib _ 6 96 Tryz.underlying29 HIB.out hz0b hz1b hz2b rfl (by decide) ⟨eb,eo,none⟩ ne ecs.flatten (by rfl) HFL.out HHO.out ⟨w9.heap.size,0,none⟩ 1 1 [Zt ⟨s.toArray⟩,Zi Zq kx,Zi Zq nx,Zt sx5,Zs Ax nax cax,Zs Bx nbx cbx] (by rfl) rfl HHN.out (by decide) (by unfold maxLen;omega) (by omega) ?_;intro ev2 W6 hown hgr;obtain ⟨A2,e2c,rfl,hc2,_,hrd2⟩:=aP hown;have HF:=aW (HFIN.out A2 e2c W2 W6 hW2.out hc2 hrd2 hgr);have HS3:=aW (And.intro ((HS2.out.1).grown hgr (by simp)) ((HS2.out.2).grown hgr (by simp)));clear hown hgr hc2 hrd2;refine hK.out _ _ (by exact ⟨HS3.out.1,HS3.out.2⟩) (λ hHeld2=>?_);clear hK K
     try simp only [pU]
     refine tA 13 96 (Zp (some ⟨mb,0,none⟩)) rfl ?_;refine tA 14 97 (Zp (some ⟨mb,1,none⟩)) rfl ?_;obtain ⟨c9,f9,l9⟩:=HF.out.1.rules;refine aU 15 rfl (λ K hK=>?_);go_simp;refine hK.out _ _ (by exact ⟨Blk.far HS3.out.1 HN9.out.1 _,Blk.far HS3.out.2 HN9.out.2 _⟩) (λ hHeld3=>?_);clear hK K
     try simp only [pU]
     refine aX ?_;obtain ⟨Wf,hWf⟩:∃ Wf,W6.setCell ⟨mb,1,none⟩ (Zs A2 (ne+1) e2c)=Wf:=⟨_,rfl⟩
     have HF2:=HF.out.2;rw [hWf] at HF2 ⊢;have HF3:=aW HF2;clear hWf HF2 HF hHeld hHeld2 hHeld3 c9 f9 l9;obtain ⟨c0,f0,l0⟩:=(HF3.out.2.blk HB4.out HN4.out.1 HN4.out.2).rules;have HRC:=aW (HIH.out body mb A2 e2c (ecs++[[Zt ⟨s.toArray⟩,Zi Zq kx,Zi Zq nx,Zt sx5,Zs Ax nax cax,Zs Bx nbx cbx]]) em2 es2 (env++[(s,x)]) (stj.1+1,stj.2) Wf bss BA nb cb HF3.out.1 (SRs.mg HSB.out.1 HF3.out.2) HNB.out hb2_ (RdF.mg HSB.out.2 HF3.out.2) HBD.out HBO.out.1 HBO.out.2.2.1 hbl4 (by rw [List.length_append];have:=HEV.out;show env.length+1+(d-1)<=4194304;omega) (by simp));go_wp2_with fail;refine HRC.out.mono ?_;rintro e w7 ⟨⟨v7,rfl⟩,em3,es3,hM7,hG7⟩;have HG7:=aW ((HG4.out.trans HF3.out.2).trans hG7);have HM7:=aW hM7;have HX7:=aW (hM7.x.env_ (dL.mg (dL.mg (dL.mg HX3.out.bnd HG4.out) HF3.out.2) hG7) (RdF.mg (RdF.mg (RdF.mg HX3.out.rd HG4.out) HF3.out.2) hG7) HX3.out.enc HX3.out.eng HX3.out.enl);clear hM7 hG7 c0 f0 l0;go_wp2;go_roundg (nk-(j+1))
     case measure=>rw [HGJ.out];omega
     case rel=>exact ⟨j+1,em3,es3,_,by omega,rfl,by go_num,aW (by rw [HTJ.out];exact HM7.out.blk),aW (by rw [HTJ.out];exact HX7.out),aW (HGW.out.trans HG7.out)⟩
   case rest =>
    obtain ⟨em2,es2,hM2,hG2⟩:=hcut.out;have HM2:=aW hM2;have HG2:=aW (HG.out.trans hG2);clear hcut hM2 hG2;go_wp2;go_roundg (n-(i+1))
    case measure=>rw [HGK.out];omega
    case rel=>exact ⟨i+1,em2,es2,by omega,rfl,by go_num,aW (by rw [HTK.out];exact HM2.out),HG2⟩
  ·obtain rfl:i=n:=by omega
   have HF:=aW (show goL env st l=goL env st (l.take i) by rw [List.take_of_length_le (Nat.le_of_eq HNK.out)]);go_wp2;go_end0;exact ⟨⟨_,rfl⟩,em1,es1,by rw [HF.out];exact HM.out,HG.out⟩
end
end Go.Proofs.YtgolomgmnanbpaaGreatDoor
