import Derived.Test.YtgolomgmnanbpaaGreatDoorV25
import Derived.Test.YtgolomgmnanbpaaGreatDoorV27
open Go.Value renaming int → Zi, slice → Zs, string → Zt, pointer → Zp
open Go.IntKind renaming i64 → Zq
set_option maxRecDepth 100000
set_option maxHeartbeats 16000000
set_option linter.unusedVariables false
set_option linter.unusedSimpArgs false
namespace Go.Proofs.YtgolomgmnanbpaaGreatDoor
section
open Go.RowKit
mutual
/-- no expression within has too many kids -/
def eq:EJ->Prop | .mk _ _ _ kids=>kids.length<=16000/\mU kids
def mU:List EJ->Prop | []=>True | x::r=>eq x/\mU r
end
theorem eL:∀ {xs:List EJ},mU xs ↔ ∀ x ∈ xs,eq x
 | []=>by simp [mU]
 | x::r=>by simp [mU,eL (xs:=r)]
def iO (mb:Nat) (F:Nat->Prop) (env:List (List UInt8 × JV)) (w:World):Prop :=
 GOE w/\(∀ b,F b->b<w.heap.size)/\(∃ (p mv:Value) (EA:Option Addr) (ec:Nat) (ecs:List (List Value)),Blk w mb 88 #[p,Zs EA env.length ec,mv]/\dL w F ecs env/\env.length<=ec/\RdF w F EA ecs.flatten)/\env.length<=4194304/\∀ b ∈ env,good b.2=true/\au b.2
theorem iO.keep {mb:Nat} {F:Nat->Prop} {env:List (List UInt8 × JV)} {w W:World} (h:iO mb F env w) (hb:Below w.heap.size w W):iO mb F env W:=by
 obtain ⟨h1,h2,⟨p,mv,EA,ec,ecs,h3,h4,h5,h6⟩,h7,h8⟩:=h;exact ⟨h1.keep hb,λ b hf=>Nat.lt_of_lt_of_le (h2 b hf) hb.size,⟨p,mv,EA,ec,ecs,h3.keep hb,RR.imp h4 λ c x hc=>hc.keep (af.of_below hb),h5,h6.keep (af.of_below hb)⟩,h7,h8⟩
theorem xu {env:List (List UInt8 × JV)} {v:JV} {s:List UInt8} {a:Option JV} {l:List (Option JV)}:bg env 3 v s (a::l)=(match a with | some a=>gv a s | none=>none):=by cases a<;>rfl
theorem xj {env:List (List UInt8 × JV)} {v:JV} {s:List UInt8} {a:Option JV} {l:List (Option JV)}:bg env 5 v s (a::l)=(isB a).map λ b=>aG (!b):=by cases a<;>rfl
theorem xt {env:List (List UInt8 × JV)} {v:JV} {s:List UInt8} {a:Option JV} {l:List (Option JV)}:bg env 6 v s (a::l)=(match a with | some a=>fv a | none=>none):=by cases a<;>rfl
theorem vR {env:List (List UInt8 × JV)} {v:JV} {s:List UInt8} {a:Option JV} {l:List (Option JV)}:bg env 7 v s (a::l)=a.map λ a=>bQ (gD a.kind):=by cases a<;>rfl
theorem xk {env:List (List UInt8 × JV)} {v:JV} {s:List UInt8} {l:List (Option JV)}:bg env 4 v s l=iW l:=rfl
theorem r7 {env:List (List UInt8 × JV)} {v:JV} {s:List UInt8} {a b:Option JV} {l:List (Option JV)} :
  bg env 8 v s (a::b::l)=fS (λ a b:Int=>a*b) a b/\bg env 9 v s (a::b::l)=fS (λ a b:Int=>a+b) a b/\bg env 10 v s (a::b::l)=fS (λ a b:Int=>a-b) a b:=by
 refine ⟨?_,?_,?_⟩<;>(cases a<;>cases b<;>rfl)
theorem sk {env:List (List UInt8 × JV)} {v:JV} {s:List UInt8} {a b:Option JV} {l:List (Option JV)} :
  bg env 11 v s (a::b::l)=fT (λ n:Int=>n == 0) a b/\bg env 12 v s (a::b::l)=fT (λ n:Int=>decide (n<0)) a b/\bg env 13 v s (a::b::l)=fT (λ n:Int=>decide (n<=0)) a b:=by
 refine ⟨?_,?_,?_⟩<;>(cases a<;>cases b<;>rfl)
theorem t7 {env:List (List UInt8 × JV)} {v:JV} {s:List UInt8} {a b:Option JV} {l:List (Option JV)} :
  bg env 14 v s (a::b::l)=kI false (isB a) (isB b)/\bg env 15 v s (a::b::l)=kI true (isB a) (isB b):=by
 constructor
 ·cases a with
  | none=>rfl
  |some a =>
   show (match isB (some a) with | none=>none | some t=>if t=decide ((14:Int)=15) then some (aG t) else (isB b).map aG)=_
   unfold kI;cases isB (some a) with
   | none=>rfl
   | some t=>cases t<;>(first | rfl | (cases isB b<;>rfl))
 ·cases a with
  | none=>rfl
  |some a =>
   show (match isB (some a) with | none=>none | some t=>if t=decide ((15:Int)=15) then some (aG t) else (isB b).map aG)=_
   unfold kI;cases isB (some a) with
   | none=>rfl
   | some t=>cases t<;>(first | rfl | (cases isB b<;>rfl))
def uW (r:Nat):Prop:=∀ (mb:Nat) (F:Nat->Prop) (env:List (List UInt8 × JV)) (w:World) (x:EJ) (cs:List Value),iO mb F env w->bx r x≠0->bh x->eq x->ER w F cs x ->
 Calls Tryz.prog 41 #[Zp (some ⟨mb,0,none⟩),.agg cs.toArray] w (ExP (evE env x) F w)
theorem ExP.later {o:Option JV} {F:Nat->Prop} {w:World} {e:Ending} {w':World} (h:ExP o F w e w'):ExP o F w e w':=h
theorem vo (r:Nat) (ih:uW r):uW (r+1):=by
 intro mb F env w x cs hM hd hc hs hx;obtain ⟨k,v,s,kids⟩:=x;obtain ⟨_,hok,hkd⟩:=eF hd;obtain ⟨hk1,hk15,hlit,h3,h8⟩:=jI hok;have hc':=hc;unfold bh at hc';obtain ⟨_,hcv,hsl,hck,hcl⟩:=hc';have hcl:=cz.1 hcl;unfold eq at hs;have hsk:=eL.1 hs.2;have HK:∀ W,Below w.heap.size w W->∀ y ∈ kids,bW (Zp (some ⟨mb,0,none⟩)) F env W y:=λ W h y hy W' cs' h' hy' =>
  ih mb F env W' y cs' (hM.keep (h.trans (h'.mono h.size))) (hkd y hy) (hcl y hy) (hsk y hy) hy'
 have hev:evE env (.mk k v s kids)=bg env k v s (kids.map (evE env)):=by rw [evE,mI]
 rw [hev];obtain ⟨k1,n1,s1,A1,na1,ca1,B1,nb1,cb1,A,ca,css,rfl,_⟩:=hx.out;refine uU k k1 n1 s1 A1 na1 ca1 B1 nb1 cb1 _ A kids.length ca ⟨hk1,hk15⟩ hM.2.1 λ W hW=>?_
 have hxW:=hx.bel hW;have hMW:=hM.keep hW;have hKW:=HK W hW;have hFW:=hMW.2.1;have one:(k=3∨5<=k/\k<=7)->∃ y,kids=[y]:=λ h=>List.length_eq_one_iff.1 (h3 h)
 have two:8<=k->∃ y z,kids=[y,z]:=λ h=>by
  have h2:=h8 h
  match kids,h2 with
  | [y,z],_=>exact ⟨y,z,rfl⟩
 rcases (by omega:k=1∨k=2∨k=3∨k=4∨k=5∨k=6∨k=7∨k=8∨k=9∨k=10∨k=11∨k=12∨k=13∨k=14∨k=15) with rfl | rfl | rfl | rfl | rfl | rfl | rfl | rfl | rfl | rfl | rfl | rfl | rfl | rfl | rfl
 ·have hl:=hlit rfl;unfold ef at hl;rw [Bool.and_eq_true] at hl;exact sF hFW hxW hl.1 hcv
 ·obtain ⟨_,_,⟨p,mv,EA,ec,ecs,m1,m2,m3,m4⟩,m5,m6⟩:=hMW;exact wO mb ecs env.length ec EA p mv hFW m1 m2 rfl m3 m4 m5 m6 hxW
 ·obtain ⟨y,rfl⟩:=one (.inl rfl);rw [List.map_cons,xu];exact vU hMW.1 hFW (hKW y List.mem_cons_self) hxW
 ·rw [xk];exact xG hMW.1 hFW hKW hxW hs.1
 ·obtain ⟨y,rfl⟩:=one (.inr ⟨by decide,by decide⟩);rw [List.map_cons,xj];exact yr (hKW y List.mem_cons_self).bool hxW
 ·obtain ⟨y,rfl⟩:=one (.inr ⟨by decide,by decide⟩);rw [List.map_cons,xt];exact vX hMW.1 hFW (hKW y List.mem_cons_self) hxW
 ·obtain ⟨y,rfl⟩:=one (.inr ⟨by decide,by decide⟩);rw [List.map_cons,vR];exact vV hMW.1 hFW (hKW y List.mem_cons_self) hxW
 all_goals
  obtain ⟨y,z,rfl⟩:=two (by decide);have hy:=hKW y List.mem_cons_self;have hz:=hKW z (List.mem_cons_of_mem _ List.mem_cons_self);rw [List.map_cons,List.map_cons]
 ·rw [r7.1];exact xS hy hz hFW hxW
 ·rw [r7.2.1];exact ym hy hz hFW hxW
 ·rw [r7.2.2];exact xW hy hz hFW hxW
 ·rw [sk.1];exact wM hMW.1 hy hz hFW hxW
 ·rw [sk.2.1];exact xo hMW.1 hy hz hFW hxW
 ·rw [sk.2.2];exact xm hMW.1 hy hz hFW hxW
 ·rw [t7.1];exact xZ hy.bool hz.bool hFW hxW
 ·rw [t7.2];exact mOr hy.bool hz.bool hFW hxW
theorem lG:∀ r,uW r
 | 0=>λ mb F env w x cs hM hd=>absurd (by cases x;rw [bx,if_pos rfl]) hd
 | r+1=>vo r (lG r)
def PbM (mb:Nat) (em:Value) (w:World) (b:Nat):Prop:=b<w.heap.size/\b≠mb/\some b≠em.ownBlock
structure MG (mb:Nat) (a:Value) (w:World) (b:Value) (w':World):Prop where
 os:w'.os=w.os
 tape:w'.tape=w.tape
 output:w'.output=w.output
 size:w.heap.size<=w'.heap.size
 block:∀ k,k<w.heap.size->k≠mb->some k≠a.ownBlock->w'.heap[k]? = w.heap[k]?
 own:b.ownBlock=a.ownBlock∨∃ k,b.ownBlock=some k/\w.heap.size<=k
section
variable {mb:Nat} {a b c:Value} {w w1 w2 W:World}
theorem MG.refl (mb:Nat) (a:Value) (w:World):MG mb a w a w:=⟨rfl,rfl,rfl,Nat.le_refl _,λ _ _ _ _=>rfl,.inl rfl⟩
theorem MG.trans (h:MG mb a w b w1) (k:MG mb b w1 c w2):MG mb a w c w2:=by
 refine ⟨k.os.trans h.os,k.tape.trans h.tape,k.output.trans h.output,Nat.le_trans h.size k.size,λ i hi hm hne=>(k.block i (Nat.lt_of_lt_of_le hi h.size) hm ?_).trans (h.block i hi hm hne),?_⟩
 ·rcases h.own with h2 | ⟨q,h2,h3⟩
  ·rw [h2];exact hne
  ·rw [h2];intro e;injection e with e;omega
 ·rcases k.own with k2 | ⟨q,k2,k3⟩
  ·rcases h.own with h2 | ⟨q',h2,h3⟩
   ·exact .inl (k2.trans h2)
   ·exact .inr ⟨q',k2.trans h2,h3⟩
  ·exact .inr ⟨q,k2,Nat.le_trans h.size k3⟩
theorem MG.bel (h:Below w.heap.size w w1):MG mb a w a w1:=⟨h.os,h.tape,h.output,h.size,λ k hk _ _=>h.block k hk,.inl rfl⟩
theorem MG.set (h:MG mb a w b w1) (i:Nat) (u:Value):MG mb a w b (w1.setCell ⟨mb,i,none⟩ u) :=
 ⟨h.os,h.tape,h.output,by simpa [World.setCell] using h.size,λ k hk hm hne=>(Below.heap_setCell w1 ⟨mb,i,none⟩ u k hm).trans (h.block k hk hm hne),h.own⟩
theorem MG.app (h:w.grownBy w1 a.ownBlock) (ho:b.ownBlock=a.ownBlock∨b.ownBlock=some w.heap.size):MG mb a w b w1 :=
 ⟨h.os,h.tape,h.output,h.size,λ k hk _ hne=>h.block k hk hne,ho.imp id λ e=>⟨_,e,Nat.le_refl _⟩⟩
theorem MG.below {base:Nat} (h:MG mb a w b w1) (hb:base<=w.heap.size) (hm:base<=mb) (ho:∀ k,a.ownBlock=some k->base<=k):Below base w w1 :=
 ⟨h.os,h.tape,h.output,h.size,λ k hk=>h.block k (by omega) (by omega) (λ e=>by have:=ho k e.symm;omega)⟩
theorem MG.pb (h:MG mb a w b w1) {k:Nat} (hk:PbM mb a w k):PbM mb b w1 k:=by
 refine ⟨Nat.lt_of_lt_of_le hk.1 h.size,hk.2.1,?_⟩;rcases h.own with h2 | ⟨q,h2,h3⟩
 ·rw [h2];exact hk.2.2
 ·rw [h2];intro e;injection e with e;have:=hk.1;omega
theorem MG.keepF (h:MG mb a w b w1):af (PbM mb a w) w w1:=⟨h.size,λ k hf hk=>h.block k hk hf.2.1 hf.2.2⟩
theorem MG.blk (h:MG mb a w b w1) {g:Nat} {t:TypeId} {cs:Array Value} (hb:Blk w g t cs) (hm:g≠mb) (ho:some g≠a.ownBlock):Blk w1 g t cs:=(h.block g hb.lt hm ho).trans hb
theorem VR.mg {cs:List Value} {v:JV} (h:VR w (PbM mb a w) cs v) (g:MG mb a w b w1):VR w1 (PbM mb b w1) cs v:=(h.keep g.keepF).mono λ _ _ hb=>g.pb hb
theorem ER.mg {cs:List Value} {v:EJ} (h:ER w (PbM mb a w) cs v) (g:MG mb a w b w1):ER w1 (PbM mb b w1) cs v:=(h.keep g.keepF).mono λ _ _ hb=>g.pb hb
theorem SR.mg {cs:List Value} {v:SJ} (h:SR w (PbM mb a w) cs v) (g:MG mb a w b w1):SR w1 (PbM mb b w1) cs v:=(h.keep g.keepF).mono λ _ _ hb=>g.pb hb
theorem RdF.mg {A:Option Addr} {xs:List Value} (h:RdF w (PbM mb a w) A xs) (g:MG mb a w b w1):RdF w1 (PbM mb b w1) A xs:=(h.keep g.keepF).mono λ _ _ hb=>g.pb hb
theorem dL.mg {ecs:List (List Value)} {env:List (List UInt8 × JV)} (h:dL w (PbM mb a w) ecs env) (g:MG mb a w b w1):dL w1 (PbM mb b w1) ecs env:=RR.imp h λ c x hc=>(BnR.keep hc g.keepF).mono λ _ _ hb=>g.pb hb
theorem e9.mg {ess:List (List Value)} {l:List (JV × JV)} (h:e9 w (PbM mb a w) ess l) (g:MG mb a w b w1):e9 w1 (PbM mb b w1) ess l:=RR.imp h λ c x hc=>(EmR.keep hc g.keepF).mono λ _ _ hb=>g.pb hb
end
structure MS (mb:Nat) (EA:Option Addr) (ec:Nat) (ecs:List (List Value)) (em:Value) (ess:List (List Value)) (env:List (List UInt8 × JV)) (st:MSt) (w:World):Prop where
 blk:Blk w mb 88 #[Zi Zq (st.1:Nat),Zs EA env.length ec,em]
 own:w.ownsRow (mb+1) 75 10 em st.2.length ess.flatten
 ems:e9 w (PbM mb em w) ess st.2
 bnd:dL w (PbM mb em w) ecs env
 rd:RdF w (PbM mb em w) EA ecs.flatten
 enc:env.length<=ec
 eng:∀ b ∈ env,good b.2=true/\au b.2
 enl:env.length<=4194304
 gob:∃ w0:World,GOE w0/\w0.heap.size<=mb/\Below w0.heap.size w0 w
 few:st.2.length<=4
 cnt:st.1<=256
 emc:∀ e ∈ st.2,au e.1/\au e.2
section
variable {mb:Nat} {EA:Option Addr} {ec:Nat} {ecs:List (List Value)} {em:Value} {ess:List (List Value)} {env:List (List UInt8 × JV)} {st:MSt} {w w':World}
theorem MS.goe (h:MS mb EA ec ecs em ess env st w):GOE w:=by obtain ⟨w0,h1,_,h2⟩:=h.gob;exact h1.keep h2
theorem MS.gobB (h:MS mb EA ec ecs em ess env st w) (hb:Below mb w w'):∃ w0:World,GOE w0/\w0.heap.size<=mb/\Below w0.heap.size w0 w':=by
 obtain ⟨w0,h1,h3,h2⟩:=h.gob;exact ⟨w0,h1,h3,h2.trans (hb.mono h3)⟩
theorem MS.bel (h:MS mb EA ec ecs em ess env st w) (hb:Below w.heap.size w w'):MS mb EA ec ecs em ess env st w' :=
 ⟨h.blk.keep hb,dG h.own hb,e9.mg h.ems (MG.bel hb),dL.mg h.bnd (MG.bel hb),RdF.mg h.rd (MG.bel hb),h.enc,h.eng,h.enl,h.gobB (hb.mono (Nat.le_of_lt h.blk.lt)),h.few,h.cnt,h.emc⟩
theorem MS.ok (h:MS mb EA ec ecs em ess env st w):iO mb (PbM mb em w) env w :=
 ⟨h.goe,λ b hb=>hb.1,⟨_,_,EA,ec,ecs,h.blk,h.bnd,h.enc,h.rd⟩,h.enl,h.eng⟩
theorem MS.fresh (h:MS mb EA ec ecs em ess env st w) {cs:List Value} {v:JV} (hv:VR w' (FN (PbM mb em w) w) cs v) (hs:w.heap.size<=w'.heap.size):VR w' (PbM mb em w') cs v:=by
 have hlt:=h.blk.lt;refine hv.mono λ b hb hF=>?_
 rcases hF with hF | hF
 ·exact ⟨hb,hF.2⟩
 ·exact ⟨hb,by omega,λ e=>by have:=(h.own.lt b e.symm).2;omega⟩
theorem FN.le {F:Nat->Prop} {w W:World} {b:Nat} (h:FN F W b) (hs:w.heap.size<=W.heap.size):FN F w b:=h.imp id λ h=>by omega
end
theorem az {P:Program} {md:Region.Mode} {ops:Array Oper} {Q:Exit->Act->World->Prop} {S:World->Prop} {fuel:Nat} {listed:Array Bool} {a:Act} {w:World} (h:∀ W,W=w->wpAnyH P md ops Q S fuel listed a W):wpAnyH P md ops Q S fuel listed a w:=h w rfl
end
section
open Go.RowKit
attribute [local go_sem] aa ac ae ab
theorem ou:(Tryz.prog.info? 75).map (λ i=>(i.zero,i.size,i.bytes))=some (some (.agg #[Zi Zq 0,Zi Zq 0,Zt ⟨#[]⟩,Zs none 0 0,Zs none 0 0,Zi Zq 0,Zi Zq 0,Zt ⟨#[]⟩,Zs none 0 0,Zs none 0 0]),10,160):=by kernel_rfl
def kR (mb:Nat) (EA:Option Addr) (ec:Nat) (ecs:List (List Value)) (em:Value) (env:List (List UInt8 × JV)) (st':MSt) (w:World) (e:Ending) (w':World):Prop :=
 (∃ v,e=.returned v)/\∃ em' ess',MS mb EA ec ecs em' ess' env st' w'/\MG mb em w em' w'
theorem kR.stay {mb:Nat} {EA:Option Addr} {ec:Nat} {ecs:List (List Value)} {em:Value} {ess:List (List Value)} {env:List (List UInt8 × JV)} {st:MSt} {w w':World} {v:Value} (h:MS mb EA ec ecs em ess env st w) (hb:Below w.heap.size w w'):kR mb EA ec ecs em env st w (.returned v) w' :=
 ⟨⟨v,rfl⟩,em,ess,h.bel hb,MG.bel hb⟩
theorem xE {mb:Nat} {EA:Option Addr} {ec:Nat} {ecs:List (List Value)} {em:Value} {ess:List (List Value)} {env:List (List UInt8 × JV)} {st:MSt} {w:World} {k:Int} {s:List UInt8} {a b:EJ} {body els:List SJ} {cs:List Value} (hM:MS mb EA ec ecs em ess env st w) (hx:SR w (PbM mb em w) cs (.mk k s a b body els)) (hda:dF a) (hdb:dF b) (hca:bh a) (hcb:bh b) (hsa:eq a) (hsb:eq b) :
  Calls Tryz.prog 93 #[Zp (some ⟨mb,0,none⟩),.agg cs.toArray] w (kR mb EA ec ecs em env (dQ st (evE env a) (evE env b)) w):=by
 obtain ⟨acs,bcs,SA,SB,sca,scb,css,dss,rfl,hA,hB,_⟩:=hx.out;obtain ⟨ak,ak1,an1,as1,aA1,ana1,aca1,aB1,anb1,acb1,as2,aA,an,aca,rfl⟩:=hA.form;obtain ⟨bk,bk1,bn1,bs1,bA1,bna1,bca1,bB1,bnb1,bcb1,bs2,bA,bn,bca,rfl⟩:=hB.form;have HM:=aW hM;have HEA:=aW (λ (W:World) (h:Below w.heap.size w W)=>lG 12 mb (PbM mb em w) env W a _ (show iO mb (PbM mb em w) env W from hM.ok.keep h) hda hca hsa (hA.bel h));have HEB:=aW (λ (W:World) (h:Below w.heap.size w W)=>lG 12 mb (PbM mb em w) env W b _ (show iO mb (PbM mb em w) env W from hM.ok.keep h) hdb hcb hsb (hB.bel h));obtain ⟨nb0,hnb0⟩:∃ q,body.length=q:=⟨_,rfl⟩
 obtain ⟨ne0,hne0⟩:∃ q,els.length=q:=⟨_,rfl⟩
 rw [hnb0,hne0];have HH0:=aW ((aj.nil w).push 69 #[Zi Zq k,Zt ⟨s.toArray⟩,Zi Zq ak,Zi Zq ak1,Zi Zq an1,Zt as1,Zs aA1 ana1 aca1,Zs aB1 anb1 acb1,Zt as2,Zs aA an aca,Zi Zq bk,Zi Zq bk1,Zi Zq bn1,Zt bs1,Zs bA1 bna1 bca1,Zs bB1 bnb1 bcb1,Zt bs2,Zs bA bn bca,Zs SA nb0 sca,Zs SB ne0 scb] (g:=w.heap.size) rfl);obtain ⟨oa,hoa⟩:∃ o,evE env a=o:=⟨_,rfl⟩
 obtain ⟨ob,hob⟩:∃ o,evE env b=o:=⟨_,rfl⟩
 rw [hoa] at HEA;rw [hob] at HEB;rw [hoa,hob];obtain ⟨i0,hi,hz0,hz1,hz2⟩:=info_parts ou;have HI:=aW hi;clear hx hA hB hM hda hdb hca hcb hsa hsb hnb0 hne0 hoa hob hi;obtain ⟨c0,f0,l0⟩:=HH0.out.b0.rules;go_enter Tryz.func93,Tryz.ntmps93;go_wp2_with fail;refine (HEA.out _ HH0.out.1).mono ?_;rintro e w1 ⟨cs1,v1,b1,rfl,hv1,hc1,ho1,hg1,hb1⟩;have HV1:=aW ((hv1.bel ((Below.refl _ w1).alloc (Nat.le_refl _) (.cells cs1.toArray 25))));have HQ1:=aW (And.intro hc1 (And.intro ho1 hg1));obtain ⟨k5,n5,s5,A5,na5,ca5,B5,nb5,cb5,rfl⟩:=hv1.form;have HH1:=aW ((HH0.out.keep hb1).push 25 #[Zi Zq k5,Zi Zq n5,Zt s5,Zs A5 na5 ca5,Zs B5 nb5 cb5] (g:=w1.heap.size) rfl);have hz1':w.heap.size<w1.heap.size:=by have:=hb1.size;simp at this;omega
 have HB1:=aW hb1;clear hv1 hc1 ho1 hg1 hb1 c0 f0 l0;obtain ⟨c0,f0,l0⟩:=HH1.out.b1.rules;go_wp2_with fail;refine (HEB.out _ HH1.out.1).mono ?_;rintro e w2 ⟨cs2,v2,b2,rfl,hv2,hc2,ho2,hg2,hb2⟩;have HV2:=aW ((hv2.bel ((Below.refl _ w2).alloc (Nat.le_refl _) (.cells cs2.toArray 25))));have HQ2:=aW (And.intro hc2 (And.intro ho2 hg2));obtain ⟨k6,n6,s6,A6,na6,ca6,B6,nb6,cb6,rfl⟩:=hv2.form;have HH2:=aW ((HH1.out.keep hb2).push 25 #[Zi Zq k6,Zi Zq n6,Zt s6,Zs A6 na6 ca6,Zs B6 nb6 cb6] (g:=w2.heap.size) rfl);have hz2':w1.heap.size<w2.heap.size:=by have:=hb2.size;simp at this;omega
 have HB2:=aW hb2;have HM2:=aW (HM.out.bel HH2.out.1);clear hv2 hc2 ho2 hg2 hb2 c0 f0 l0;obtain ⟨EL,ecap,hem,_⟩:=aP HM.out.own;obtain ⟨ne,hne⟩:∃ q,st.2.length=q:=⟨_,rfl⟩
 have hfew:ne<=4:=by rw [← hne];exact HM.out.few
 rw [hne] at hem;have HNE0:=aW hne;have HEM:=aW hem;have hmlt:mb<w.heap.size:=HM.out.blk.lt;clear hne hem;have hcm:=HM2.out.blk.rules;rw [HEM.out] at hcm;obtain ⟨c1,f1,l1⟩:=hcm;cases b1
 ·have HST:=aW (show dQ st oa ob=st by rw [HQ1.out.2.1];rfl);go_wp2;refine bodyPost_ret (results_none rfl _ _ _) rfl ?_;rw [HST.out];exact kR.stay HM.out HH2.out.1
 cases b2
 ·have HST:=aW (show dQ st oa ob=st by rw [HQ2.out.2.1];cases oa<;>rfl);go_wp2;refine bodyPost_ret (results_none rfl _ _ _) rfl ?_;rw [HST.out];exact kR.stay HM.out HH2.out.1
 have HG1:=aW (HQ1.out.2.2 rfl);have HG2:=aW (HQ2.out.2.2 rfl);have HEQ:=aW (show dQ st oa ob=if ne<4/\(aJ v1).length<=90/\(bf v2).length<=100 then (st.1,st.2++[(v1,v2)]) else st by rw [HQ1.out.2.1,HQ2.out.2.1,← HNE0.out];rfl);by_cases h4:ne=4
 ·subst h4;have HST:=aW (show dQ st oa ob=st by rw [HEQ.out,if_neg (by omega)]);go_wp2;refine bodyPost_ret (results_none rfl _ _ _) rfl ?_;rw [HST.out];exact kR.stay HM.out HH2.out.1
 have h4b:((ne:Int) == 4)=false:=by rw [beq_eq_false_iff_ne];omega
 have HEN:=aW (sM v1 _ _ _ HM2.out.goe.gok (((HV1.out).bel HB2.out).bel ((Below.refl _ w2).alloc (Nat.le_refl _) (.cells #[Zi Zq k6,Zi Zq n6,Zt s6,Zs A6 na6 ca6,Zs B6 nb6 cb6] 25))) HQ1.out.1);obtain ⟨c0,f0,l0⟩:=HH2.out.b1.rules;obtain ⟨c2,f2,l2⟩:=HH2.out.b0.rules;go_wp2_with fail;refine HEN.out.mono ?_;rintro e w3 ⟨CA,cn,ccap,er,rfl,hcg,_,hb3⟩;obtain ⟨rfl,hcn⟩:=hcg HG1.out;have HCN:=aW hcn;have HH3:=aW (HH2.out.keep hb3);have HM3:=aW (HM.out.bel HH3.out.1);have hz3':w2.heap.size<w3.heap.size:=by have:=hb3.size;simp at this;omega
 have HB3:=aW hb3;clear hcg hcn hb3 c0 f0 l0 c1 f1 l1 c2 f2 l2 HEN;have hsz:oE v2=(((bf v2).length:Int),0):=by unfold oE;rw [if_pos HG2.out]
 have HSZ:=aW (qQ v2 _ _ w3 (HV2.out.bel HB3.out) HM3.out.goe.gok HQ2.out.1);rw [hsz] at HSZ;obtain ⟨pn,hpn⟩:∃ q,(bf v2).length=q:=⟨_,rfl⟩
 rw [hpn] at HSZ HEQ;rw [← HCN.out] at HEQ;clear hsz hpn;obtain ⟨c0,f0,l0⟩:=HH3.out.b1.rules;obtain ⟨c2,f2,l2⟩:=HH3.out.b0.rules;go_wp2_with fail;refine HSZ.out.mono ?_;rintro e w4 ⟨rfl,hb4⟩;have HH4:=aW (HH3.out.keep hb4);have HM4:=aW (HM.out.bel HH4.out.1);have hz4':w3.heap.size<=w4.heap.size:=hb4.size;have HB4:=aW hb4;clear hb4 c0 f0 l0 c2 f2 l2 HSZ;by_cases hc90:cn<=90;rotate_left
 ·have HST:=aW (show dQ st oa ob=st by rw [HEQ.out,if_neg (by omega)]);have hc9:¬ (cn:Int)<=90:=by omega
  go_wp2;refine bodyPost_ret (results_none rfl _ _ _) rfl ?_;rw [HST.out];exact kR.stay HM.out HH4.out.1
 by_cases hp100:pn<=100;rotate_left
 ·have HST:=aW (show dQ st oa ob=st by rw [HEQ.out,if_neg (by omega)]);have hc9:(cn:Int)<=90:=by omega
  have hc8:¬ (pn:Int)<=100:=by omega
  go_wp2;refine bodyPost_ret (results_none rfl _ _ _) rfl ?_;rw [HST.out];exact kR.stay HM.out HH4.out.1
 have HST:=aW (show dQ st oa ob=(st.1,st.2++[(v1,v2)]) by rw [HEQ.out,if_pos (by omega)]);have hc9:(cn:Int)<=90:=by omega
 have hc8:(pn:Int)<=100:=by omega
 go_upto_region 7 with fail;have HSP:=aW (show Blk w4 w1.heap.size 25 #[Zi Zq k5,Zi Zq n5,Zt s5,Zs A5 na5 ca5,Zs B5 nb5 cb5]/\Blk w4 w2.heap.size 25 #[Zi Zq k6,Zi Zq n6,Zt s6,Zs A6 na6 ca6,Zs B6 nb6 cb6] from ⟨HH4.out.b1,HH4.out.b0⟩);refine wp_region_held_drew (S:=λ W'=>Blk W' w1.heap.size 25 #[Zi Zq k5,Zi Zq n5,Zt s5,Zs A5 na5 ca5,Zs B5 nb5 cb5]/\Blk W' w2.heap.size 25 #[Zi Zq k6,Zi Zq n6,Zt s6,Zs A6 na6 ca6,Zs B6 nb6 cb6]) (by kernel_rfl) (by exact ⟨HSP.out.1.drew,HSP.out.2.drew⟩) (λ hHeld=>?_);refine az (λ w9 hw9=>?_);have hb49:Below w4.heap.size w4 w9:=by rw [hw9];exact (Below.refl _ _).drew
 have HH9:=aW (HH4.out.keep hb49);have HM9:=aW (HM.out.bel HH9.out.1);have HS9:=aW (show Blk w9 w1.heap.size 25 #[Zi Zq k5,Zi Zq n5,Zt s5,Zs A5 na5 ca5,Zs B5 nb5 cb5]/\Blk w9 w2.heap.size 25 #[Zi Zq k6,Zi Zq n6,Zt s6,Zs A6 na6 ca6,Zs B6 nb6 cb6] from ⟨HH9.out.b1,HH9.out.b0⟩);have hk9:VR w9 (PbM mb em w9) [Zi Zq k5,Zi Zq n5,Zt s5,Zs A5 na5 ca5,Zs B5 nb5 cb5] v1:=HM.out.fresh (((((((HV1.out.bel HB2.out).bel ((Below.refl _ w2).alloc (Nat.le_refl _) (.cells #[Zi Zq k6,Zi Zq n6,Zt s6,Zs A6 na6 ca6,Zs B6 nb6 cb6] 25))).bel HB3.out).bel HB4.out).bel hb49)).mono λ _ _ h=>FN.le h (by simp)) HH9.out.1.size;have hv9:VR w9 (PbM mb em w9) [Zi Zq k6,Zi Zq n6,Zt s6,Zs A6 na6 ca6,Zs B6 nb6 cb6] v2:=HM.out.fresh (((((HV2.out.bel HB3.out).bel HB4.out).bel hb49)).mono λ _ _ h=>FN.le h HH1.out.1.size) HH9.out.1.size;have hmo:∀ q,em.ownBlock=some q->mb+1<=q/\q<w.heap.size:=λ q e=>HM.out.own.lt q e
 have HMO:=aW hmo;have HNE:=aW (show w1.heap.size≠mb/\w2.heap.size≠mb by omega);have H1C:=aW (show ∀ u ∈ ([Zi Zq k5,Zi Zq n5,Zt s5,Zs A5 na5 ca5,Zs B5 nb5 cb5,Zi Zq k6,Zi Zq n6,Zt s6,Zs A6 na6 ca6,Zs B6 nb6 cb6]:List Value),u.oneCell'=true from λ u hu=>by
  have h1:=hk9.one;have h2:=hv9.one;rcases List.mem_append.1 (show u ∈ ([Zi Zq k5,Zi Zq n5,Zt s5,Zs A5 na5 ca5,Zs B5 nb5 cb5]:List Value)++([Zi Zq k6,Zi Zq n6,Zt s6,Zs A6 na6 ca6,Zs B6 nb6 cb6]:List Value) from hu) with hu | hu
  ·exact h1 u hu
  ·exact h2 u hu)
 have HFIN:=aW (λ (em2:Value) (W2 W3:World) (hW:W2=w9.alloc (.cells #[Zi Zq k5,Zi Zq n5,Zt s5,Zs A5 na5 ca5,Zs B5 nb5 cb5,Zi Zq k6,Zi Zq n6,Zt s6,Zs A6 na6 ca6,Zs B6 nb6 cb6] 75)) (hown:W3.ownsRow (mb+1) 75 10 em2 (ne+1) (ess.flatten++[Zi Zq k5,Zi Zq n5,Zt s5,Zs A5 na5 ca5,Zs B5 nb5 cb5,Zi Zq k6,Zi Zq n6,Zt s6,Zs A6 na6 ca6,Zs B6 nb6 cb6])) (hgr:W2.grownBy W3 em.ownBlock) (hob:em2.ownBlock=em.ownBlock∨em2.ownBlock=some W2.heap.size) =>
  show (some w1.heap.size≠em.ownBlock/\some w2.heap.size≠em.ownBlock/\Blk W3 mb 88 #[Zi Zq (st.1:Nat),Zs EA env.length ec,em])/\∀ v,kR mb EA ec ecs em env (dQ st oa ob) w (.returned v) (W3.setCell ⟨mb,2,none⟩ em2) from by
   have hbel:Below w9.heap.size w9 W2:=by rw [hW];exact (Below.refl _ _).alloc (Nat.le_refl _) _
   have hmb3:Blk W3 mb 88 #[Zi Zq (st.1:Nat),Zs EA env.length ec,em]:=(HM9.out.blk.keep hbel).grown hgr (λ e=>by have:=(HMO.out _ e.symm).1;omega);have g:MG mb em w9 em2 (W3.setCell ⟨mb,2,none⟩ em2):=((MG.bel hbel).trans (MG.app hgr hob)).set 2 em2;refine ⟨⟨λ e=>by have:=(HMO.out _ e.symm).2;omega,λ e=>by have:=(HMO.out _ e.symm).2;omega,hmb3⟩,λ v=>⟨⟨v,rfl⟩,em2,ess++[[Zi Zq k5,Zi Zq n5,Zt s5,Zs A5 na5 ca5,Zs B5 nb5 cb5,Zi Zq k6,Zi Zq n6,Zt s6,Zs A6 na6 ca6,Zs B6 nb6 cb6]],?_,(MG.bel HH9.out.1).trans g⟩⟩;rw [HST.out];refine ⟨hmb3.set_ 2 em2,?_,?_,dL.mg HM9.out.bnd g,RdF.mg HM9.out.rd g,HM9.out.enc,HM9.out.eng,HM9.out.enl,HM9.out.gobB (g.below (Nat.le_of_lt HM9.out.blk.lt) (Nat.le_refl _) (λ q e=>by have:=(HMO.out q e).1;omega)),?_,HM9.out.cnt,?_⟩
   ·have e1:(st.2++[(v1,v2)]).length=ne+1:=by rw [List.length_append,HNE0.out];rfl
    show (W3.setCell ⟨mb,2,none⟩ em2).ownsRow (mb+1) 75 10 em2 (st.2++[(v1,v2)]).length (ess++([[Zi Zq k5,Zi Zq n5,Zt s5,Zs A5 na5 ca5,Zs B5 nb5 cb5,Zi Zq k6,Zi Zq n6,Zt s6,Zs A6 na6 ca6,Zs B6 nb6 cb6]]:List (List Value))).flatten
    rw [e1,List.flatten_append,show ([[Zi Zq k5,Zi Zq n5,Zt s5,Zs A5 na5 ca5,Zs B5 nb5 cb5,Zi Zq k6,Zi Zq n6,Zt s6,Zs A6 na6 ca6,Zs B6 nb6 cb6]]:List (List Value)).flatten=[Zi Zq k5,Zi Zq n5,Zt s5,Zs A5 na5 ca5,Zs B5 nb5 cb5,Zi Zq k6,Zi Zq n6,Zt s6,Zs A6 na6 ca6,Zs B6 nb6 cb6] from rfl];exact hown.kept (eU (jc W3 (some mb)) 2 _) (.inr (λ e=>by have:=(hown.lt _ e).1;omega))
   ·exact (e9.mg HM9.out.ems g).snoc ⟨[Zi Zq k5,Zi Zq n5,Zt s5,Zs A5 na5 ca5,Zs B5 nb5 cb5],[Zi Zq k6,Zi Zq n6,Zt s6,Zs A6 na6 ca6,Zs B6 nb6 cb6],rfl,VR.mg hk9 g,VR.mg hv9 g⟩
   ·show (st.2++[(v1,v2)]).length<=4
    rw [List.length_append,HNE0.out];show ne+1<=4;omega
   ·intro y hy;rcases List.mem_append.1 hy with hy | hy
    ·exact HM9.out.emc y hy
    ·obtain rfl:=List.mem_singleton.1 hy;exact ⟨HQ1.out.1,HQ2.out.1⟩)
 clear hk9 hv9 hmo hb49 hHeld;have hHeld:=HS9.out;clear hw9;refine tA 0 65 (Zp (some ⟨mb,0,none⟩)) rfl ?_;refine tA 1 66 (Zp (some ⟨mb,0,none⟩)) rfl ?_;refine tA 2 67 (Zp (some ⟨mb,0,none⟩)) rfl ?_;refine tA 3 68 (Zp (some ⟨mb,2,none⟩)) rfl ?_;refine aY 5 70 (.agg #[Zi Zq k5,Zi Zq n5,Zt s5,Zs A5 na5 ca5,Zs B5 nb5 cb5]) rfl ?_ ?_
 ·intro W hSw;obtain ⟨c8,f8,l8⟩:=hSw.1.rules;go_simp
 refine aY 6 71 (.agg #[Zi Zq k6,Zi Zq n6,Zt s6,Zs A6 na6 ca6,Zs B6 nb6 cb6]) rfl ?_ ?_
 ·intro W hSw;obtain ⟨c8,f8,l8⟩:=hSw.2.rules;go_simp
 refine tA 7 72 (.agg #[Zi Zq k5,Zi Zq n5,Zt s5,Zs A5 na5 ca5,Zs B5 nb5 cb5,Zi Zq k6,Zi Zq n6,Zt s6,Zs A6 na6 ca6,Zs B6 nb6 cb6]) rfl ?_;refine wpAnyH_ready (rs:=[4,8]) (by kernel_rfl) (by simp) ?_;refine AllReadyH.cons (o:=⟨some 69,_,_,_,_,_⟩) rfl (λ K hK=>?_) (AllReadyH.cons (o:=⟨some 73,_,_,_,_,_⟩) rfl (λ K hK=>?_) AllReadyH.nil)
 ·obtain ⟨c8,f8,l8⟩:=(HM9.out.blk).rules;go_simp;refine hK.out _ _ (by exact HS9.out) (λ hHeld2=>?_);clear hK K c8 f8 l8
  try simp only [pU]
  refine aV 8 73 rfl (λ K hK=>?_);go_simp;refine hK.out _ _ (by exact ⟨Blk.alloc HS9.out.1 _,Blk.alloc HS9.out.2 _⟩) (λ hHeld2=>?_);clear hK K
  try simp only [pU]
  refine az (λ W2 hW=>?_);have hW2:=aW hW;have HS2:=aW (show Blk W2 w1.heap.size 25 #[Zi Zq k5,Zi Zq n5,Zt s5,Zs A5 na5 ca5,Zs B5 nb5 cb5]/\Blk W2 w2.heap.size 25 #[Zi Zq k6,Zi Zq n6,Zt s6,Zs A6 na6 ca6,Zs B6 nb6 cb6] by rw [hW];exact ⟨Blk.alloc HS9.out.1 _,Blk.alloc HS9.out.2 _⟩);have HA:=aW (show W2.ownsRow (mb+1) 75 10 em ne ess.flatten by rw [hW,← HNE0.out];exact HM9.out.own.alloc _);have HR:=aW (show Rd W2 (some ⟨w9.heap.size,0,none⟩) [Zi Zq k5,Zi Zq n5,Zt s5,Zs A5 na5 ca5,Zs B5 nb5 cb5,Zi Zq k6,Zi Zq n6,Zt s6,Zs A6 na6 ca6,Zs B6 nb6 cb6] by rw [hW];exact Rd.of_blk (Blk.new w9 75 #[Zi Zq k5,Zi Zq n5,Zt s5,Zs A5 na5 ca5,Zs B5 nb5 cb5,Zi Zq k6,Zi Zq n6,Zt s6,Zs A6 na6 ca6,Zs B6 nb6 cb6]));have HBS:=aW (show mb+1<=W2.heap.size by rw [hW];have:=HM9.out.blk.lt;simp;omega);have HMB2:=aW (show Blk W2 mb 88 #[Zi Zq (st.1:Nat),Zs EA env.length ec,em] by rw [hW];exact HM9.out.blk.alloc _);clear hW hHeld2;have hHeld:=HS2.out;refine aV 9 74 rfl (λ K hK=>?_);rw [if_pos (by kernel_rfl)];refine dS _ (.tmp 69) (.tmp 73) 49 rfl (mb+1) 75 i0 _ 10 160 Tryz.underlying49 HI.out hz0 hz1 hz2 rfl (by decide) em ne ess.flatten (by rfl) HA.out (some ⟨w9.heap.size,0,none⟩) 1 1 (by intro h;cases h) [Zi Zq k5,Zi Zq n5,Zt s5,Zs A5 na5 ca5,Zs B5 nb5 cb5,Zi Zq k6,Zi Zq n6,Zt s6,Zs A6 na6 ca6,Zs B6 nb6 cb6] (by rfl) rfl HR.out H1C.out (by unfold maxLen;omega) (by omega) HBS.out ?_;intro em2 W3 hown hgr hob;obtain ⟨EL2,ec2,hem2,_⟩:=aP hown;have HF:=aW (HFIN.out em2 W2 W3 hW2.out hown hgr hob);have HS3:=aW (And.intro ((HS2.out.1).grown hgr HF.out.1.1) (And.intro ((HS2.out.2).grown hgr HF.out.1.2.1) HF.out.1.2.2));clear hown hgr hob;subst hem2;refine hK.out _ _ (by exact ⟨HS3.out.1,HS3.out.2.1⟩) (λ hHeld2=>?_);clear hK K
  try simp only [pU]
  refine tA 10 75 (Zp (some ⟨mb,0,none⟩)) rfl ?_;refine tA 11 76 (Zp (some ⟨mb,2,none⟩)) rfl ?_;obtain ⟨c9,f9,l9⟩:=HS3.out.2.2.rules;refine aU 12 rfl (λ K hK=>?_);go_simp;refine hK.out _ _ (by exact ⟨Blk.far HS3.out.1 HNE.out.1 _,Blk.far HS3.out.2.1 HNE.out.2 _⟩) (λ hHeld3=>?_);clear hK K
  try simp only [pU]
  refine aX ?_;have HX:=aW HF.out.2;clear c9 f9 l9;go_wp2;refine bodyPost_ret (results_none rfl _ _ _) rfl ?_;exact HX.out _
 ·go_simp;refine hK.out _ _ (by exact ⟨Blk.alloc HS9.out.1 _,Blk.alloc HS9.out.2 _⟩) (λ hHeld2=>?_);clear hK K
  try simp only [pU]
  refine az (λ W2 hW=>?_);have hW2:=aW hW;have HS2:=aW (show Blk W2 w1.heap.size 25 #[Zi Zq k5,Zi Zq n5,Zt s5,Zs A5 na5 ca5,Zs B5 nb5 cb5]/\Blk W2 w2.heap.size 25 #[Zi Zq k6,Zi Zq n6,Zt s6,Zs A6 na6 ca6,Zs B6 nb6 cb6] by rw [hW];exact ⟨Blk.alloc HS9.out.1 _,Blk.alloc HS9.out.2 _⟩);have HA:=aW (show W2.ownsRow (mb+1) 75 10 em ne ess.flatten by rw [hW,← HNE0.out];exact HM9.out.own.alloc _);have HR:=aW (show Rd W2 (some ⟨w9.heap.size,0,none⟩) [Zi Zq k5,Zi Zq n5,Zt s5,Zs A5 na5 ca5,Zs B5 nb5 cb5,Zi Zq k6,Zi Zq n6,Zt s6,Zs A6 na6 ca6,Zs B6 nb6 cb6] by rw [hW];exact Rd.of_blk (Blk.new w9 75 #[Zi Zq k5,Zi Zq n5,Zt s5,Zs A5 na5 ca5,Zs B5 nb5 cb5,Zi Zq k6,Zi Zq n6,Zt s6,Zs A6 na6 ca6,Zs B6 nb6 cb6]));have HBS:=aW (show mb+1<=W2.heap.size by rw [hW];have:=HM9.out.blk.lt;simp;omega);have HMB2:=aW (show Blk W2 mb 88 #[Zi Zq (st.1:Nat),Zs EA env.length ec,em] by rw [hW];exact HM9.out.blk.alloc _);clear hW hHeld2;have hHeld:=HS2.out;refine aV 4 69 rfl (λ K hK=>?_);obtain ⟨c8,f8,l8⟩:=(HMB2.out).rules;go_simp;refine hK.out _ _ (by exact HS2.out) (λ hHeld2=>?_);clear hK K c8 f8 l8
  try simp only [pU]
  refine aV 9 74 rfl (λ K hK=>?_);rw [if_pos (by kernel_rfl)];refine dS _ (.tmp 69) (.tmp 73) 49 rfl (mb+1) 75 i0 _ 10 160 Tryz.underlying49 HI.out hz0 hz1 hz2 rfl (by decide) em ne ess.flatten (by rfl) HA.out (some ⟨w9.heap.size,0,none⟩) 1 1 (by intro h;cases h) [Zi Zq k5,Zi Zq n5,Zt s5,Zs A5 na5 ca5,Zs B5 nb5 cb5,Zi Zq k6,Zi Zq n6,Zt s6,Zs A6 na6 ca6,Zs B6 nb6 cb6] (by rfl) rfl HR.out H1C.out (by unfold maxLen;omega) (by omega) HBS.out ?_;intro em2 W3 hown hgr hob;obtain ⟨EL2,ec2,hem2,_⟩:=aP hown;have HF:=aW (HFIN.out em2 W2 W3 hW2.out hown hgr hob);have HS3:=aW (And.intro ((HS2.out.1).grown hgr HF.out.1.1) (And.intro ((HS2.out.2).grown hgr HF.out.1.2.1) HF.out.1.2.2));clear hown hgr hob;subst hem2;refine hK.out _ _ (by exact ⟨HS3.out.1,HS3.out.2.1⟩) (λ hHeld2=>?_);clear hK K
  try simp only [pU]
  refine tA 10 75 (Zp (some ⟨mb,0,none⟩)) rfl ?_;refine tA 11 76 (Zp (some ⟨mb,2,none⟩)) rfl ?_;obtain ⟨c9,f9,l9⟩:=HS3.out.2.2.rules;refine aU 12 rfl (λ K hK=>?_);go_simp;refine hK.out _ _ (by exact ⟨Blk.far HS3.out.1 HNE.out.1 _,Blk.far HS3.out.2.1 HNE.out.2 _⟩) (λ hHeld3=>?_);clear hK K
  try simp only [pU]
  refine aX ?_;have HX:=aW HF.out.2;clear c9 f9 l9;go_wp2;refine bodyPost_ret (results_none rfl _ _ _) rfl ?_;exact HX.out _
end
end Go.Proofs.YtgolomgmnanbpaaGreatDoor
