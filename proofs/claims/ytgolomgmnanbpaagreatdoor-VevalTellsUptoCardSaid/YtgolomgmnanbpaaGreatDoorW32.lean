import Derived.Test.YtgolomgmnanbpaaGreatDoorW28
import Derived.Test.YtgolomgmnanbpaaGreatDoorW01
set_option maxRecDepth 100000
set_option maxHeartbeats 16000000
namespace Go.Proofs.YtgolomgmnanbpaaGreatDoor
set_option linter.unusedVariables false
set_option linter.unusedSimpArgs false
open Go.RowKit
attribute [local go_sem] run_index_arr run_part_agg run_part_one run_field_agg
theorem kid_cellsV {W:World} {F:Nat→Prop} {css:List (List Value)} {xs:List JV} {A:Option Addr} (h:VRs W F css xs) (hr:RdF W F A css.flatten) {i:Nat} {x:JV} (hx:xs[i]? = some x) :
  ∃ (b o:Nat) (k n:Int) (s:ByteArray) (A':Option Addr) (na ca:Nat) (B':Option Addr) (nb cb:Nat),A=some ⟨b,o,none⟩∧b<W.heap.size∧F b∧VR W F [.int .i64 k,.int .i64 n,.string s,.slice A' na ca,.slice B' nb cb] x ∧
   ∀ W',KeepF F W W'→W'.cell? ⟨b,o+i*5,none⟩=some (.int .i64 k)∧W'.cell? ⟨b,o+i*5+1,none⟩=some (.int .i64 n)∧W'.cell? ⟨b,o+i*5+2,none⟩=some (.string s)∧W'.cell? ⟨b,o+i*5+3,none⟩=some (.slice A' na ca)∧W'.cell? ⟨b,o+i*5+4,none⟩=some (.slice B' nb cb):=by
 obtain ⟨b,o,c,rfl,hb,hf,hv,hc⟩:=h.cell hr hx;obtain ⟨k,n,s,A',na,ca,B',nb,cb,rfl⟩:=hv.form;refine ⟨b,o,k,n,s,A',na,ca,B',nb,cb,rfl,hb,hf,hv,fun W' hW=>?_⟩;have z:=fun (j:Nat) u (hj:j<5) hu=>(World.cell?_of_block (w:=W) (a:=⟨b,o+(i*5+j),none⟩) (hW.2 b hf hb)).trans (hc j u hj hu)
 exact ⟨z 0 _ (by decide) rfl,z 1 _ (by decide) rfl,z 2 _ (by decide) rfl,z 3 _ (by decide) rfl,z 4 _ (by decide) rfl⟩
theorem codeL_nil (o:Bool) (ks:List (List UInt8)):codeL o [] ks=[]:=by rw [codeL]
theorem codeL_snoc (o:Bool):∀ (i:Nat) (kids:List JV) (keys:List (List UInt8)) (x:JV),kids[i]? = some x →
  codeL o (kids.take (i+1)) keys=codeL o (kids.take i) keys++((if o=true then codeT (keys.getD i []) else [])++codeJ x)
 | 0,y::r,keys,x,h=>by
  obtain rfl:y=x:=by simpa using h
  rw [List.take_succ_cons,List.take_zero,List.take_zero,codeL,codeL,codeL,List.append_nil];cases keys<;>rfl
 | i+1,y::r,keys,x,h=>by
  have h':r[i]? = some x:=by simpa using h
  rw [List.take_succ_cons,List.take_succ_cons,codeL,codeL,codeL_snoc o i r keys.tail x h'];have e:keys.tail.getD i []=keys.getD (i+1) []:=by cases keys<;>rfl
  rw [e];simp only [List.append_assoc]
theorem codeL_le (o:Bool) (kids:List JV) (keys:List (List UInt8)):∀ i,i≤kids.length→(codeL o (kids.take i) keys).length≤(codeL o kids keys).length:=by
 have key:∀ d i,i+d=kids.length→(codeL o (kids.take i) keys).length≤(codeL o kids keys).length:=by
  intro d
  induction d with
  | zero=>intro i h;rw [List.take_of_length_le (by omega)];exact Nat.le_refl _
  | succ d ih =>
   intro i h;have h1:=ih (i+1) (by omega);rw [codeL_snoc o i kids keys kids[i] (List.getElem?_eq_getElem (by omega)),List.length_append] at h1;omega
 exact fun i h=>key (kids.length-i) i (by omega)
mutual
theorem codeJ_len:∀ v:JV,(codeJ v).length+3≤13*bulkJ v
 | .mk k n s kids keys=>by
  have h1:=codeL_len true kids keys;have h2:=codeL_len false kids keys;have h3:=encT_len s;unfold codeJ bulkJ;split
  ·simp;omega
  split
  ·simp;omega
  split
  ·rw [codeN_8,List.length_cons];unfold numB8;rw [List.length_map,List.length_take];simp;omega
  split
  ·rw [codeT_enc,List.length_cons,List.length_append];simp;omega
  split
  ·rw [List.length_cons,List.length_append];simp;omega
  ·rw [List.length_cons,List.length_append];simp;omega
theorem codeL_len:∀ (o:Bool) (kids:List JV) (keys:List (List UInt8)),(codeL o kids keys).length≤13*bulkL kids+2*bulkK keys
 | o,[],keys=>by rw [codeL_nil];simp
 | o,x::r,keys=>by
  have h1:=codeJ_len x;have h2:=codeL_len o r keys.tail;rw [codeL,List.length_append,List.length_append];have e1:bulkL (x::r)=bulkJ x+bulkL r:=by rw [bulkL]
  have h4:(if o=true then codeT (keys.headD []) else []).length+2*bulkK keys.tail≤2*bulkK keys+3:=by
   cases keys with
   | nil =>
    show (if o=true then codeT [] else []).length+2*bulkK []≤_
    split<;>simp [bulkK,codeT_enc,encT]
   | cons k ks =>
    have h5:=encT_len k;show (if o=true then codeT k else []).length+2*bulkK ks≤_
    have e2:bulkK (k::ks)=k.length+1+bulkK ks:=by rw [bulkK]
    rw [e2];split
    ·rw [codeT_enc,List.length_cons,List.length_append];simp;omega
    ·simp;omega
  have h6:=bulkJ_pos x;rw [e1];omega
end
theorem kLay1 (row:Value) (base n:Nat) (l:List UInt8) (w:World) (v:Int) (t:List UInt8) (A B:Option Addr) (nk ca ny cb:Nat) (h:OwnB base row n l w) (hn:n≤100000000000):Calls Tryz.prog 65 #[row,.agg #[.int .i64 1,.int .i64 v,.string ⟨t.toArray⟩,.slice A nk ca,.slice B ny cb]] w (LayP base (l++[1]) row w):=by
 obtain ⟨i0,hi,hz0,hz1,hz2⟩:=info_parts infoByteK;have HI:=aW hi;have HH0:=aW ((Held.nil w).push 25 #[.int .i64 1,.int .i64 v,.string ⟨t.toArray⟩,.slice A nk ca,.slice B ny cb] (g:=w.heap.size) rfl);have HO:=aW (h.bel HH0.out.1);obtain ⟨W0,hW0⟩:∃ W0,w.alloc (.cells #[.int .i64 1,.int .i64 v,.string ⟨t.toArray⟩,.slice A nk ca,.slice B ny cb] 25)=W0:=⟨_,rfl⟩
 rw [hW0] at HH0 HO;have HW0:=aW hW0;have HFIN:=aW (fun (r:Value) (k:Nat) (w':World) (ho:OwnB base r k (l++[1]) w') (hb:Gr row W0 r w')=>show LayP base (l++[1]) row w (.returned r) w' from ⟨r,k,rfl,ho,(Gr.bel HH0.out.1).trans hb⟩);clear hi h hW0;go_enter Tryz.func65,Tryz.ntmps65;go_upto_region 7 with fail;rw [HW0.out];have HA2:=aW (HO.out.2.1.alloc (.cells #[.int .u8 1] 5));have HR2:=aW (Rd.of_blk (Blk.new W0 5 #[.int .u8 1]));have HB2:=aW (show base≤(W0.alloc (.cells #[.int .u8 1] 5)).heap.size by have:=HO.out.2.2;simp;omega);go_wp2_with (at_builtin;refine wpList_append_rd _ rfl _ _ 76 rfl base 5 i0 _ 1 1 Tryz.underlying76 HI.out hz0 hz1 hz2 rfl (by decide) row n (byteV (l)) rfl HA2.out (some ⟨W0.heap.size,0,none⟩) 1 1 (fun h=>by cases h) [.int .u8 1] rfl rfl HR2.out (byteV_one [1]) (by unfold maxLen;omega) (by omega) HB2.out ?_;intro row2 w2 hown2 hgr2 hob2);have H2P:=aW (HO.out.post (m:=[1]) (M:=1) hown2 rfl hgr2 hob2);clear hown2 hgr2 hob2 HA2 HR2 HB2;go_ret;exact HFIN.out _ _ _ H2P.out.1 H2P.out.2
theorem kLay20 (row:Value) (base n:Nat) (l:List UInt8) (w:World) (v:Int) (t:List UInt8) (A B:Option Addr) (nk ca ny cb:Nat) (h:OwnB base row n l w) (hn:n≤100000000000):Calls Tryz.prog 65 #[row,.agg #[.int .i64 2,.int .i64 0,.string ⟨t.toArray⟩,.slice A nk ca,.slice B ny cb]] w (LayP base (l++[2]) row w):=by
 obtain ⟨i0,hi,hz0,hz1,hz2⟩:=info_parts infoByteK;have HI:=aW hi;have HH0:=aW ((Held.nil w).push 25 #[.int .i64 2,.int .i64 0,.string ⟨t.toArray⟩,.slice A nk ca,.slice B ny cb] (g:=w.heap.size) rfl);have HO:=aW (h.bel HH0.out.1);obtain ⟨W0,hW0⟩:∃ W0,w.alloc (.cells #[.int .i64 2,.int .i64 0,.string ⟨t.toArray⟩,.slice A nk ca,.slice B ny cb] 25)=W0:=⟨_,rfl⟩
 rw [hW0] at HH0 HO;have HW0:=aW hW0;have HFIN:=aW (fun (r:Value) (k:Nat) (w':World) (ho:OwnB base r k (l++[2]) w') (hb:Gr row W0 r w')=>show LayP base (l++[2]) row w (.returned r) w' from ⟨r,k,rfl,ho,(Gr.bel HH0.out.1).trans hb⟩);clear hi h hW0;obtain ⟨c0,f0,l0⟩:=HH0.out.b0.rules;go_enter Tryz.func65,Tryz.ntmps65;go_upto_region 8 with fail;rw [HW0.out];have HA2:=aW (HO.out.2.1.alloc (.cells #[.int .u8 2] 5));have HR2:=aW (Rd.of_blk (Blk.new W0 5 #[.int .u8 2]));have HB2:=aW (show base≤(W0.alloc (.cells #[.int .u8 2] 5)).heap.size by have:=HO.out.2.2;simp;omega);go_wp2_with (at_builtin;refine wpList_append_rd _ rfl _ _ 76 rfl base 5 i0 _ 1 1 Tryz.underlying76 HI.out hz0 hz1 hz2 rfl (by decide) row n (byteV (l)) rfl HA2.out (some ⟨W0.heap.size,0,none⟩) 1 1 (fun h=>by cases h) [.int .u8 2] rfl rfl HR2.out (byteV_one [2]) (by unfold maxLen;omega) (by omega) HB2.out ?_;intro row2 w2 hown2 hgr2 hob2);have H2P:=aW (HO.out.post (m:=[2]) (M:=1) hown2 rfl hgr2 hob2);clear hown2 hgr2 hob2 HA2 HR2 HB2;go_ret;exact HFIN.out _ _ _ H2P.out.1 H2P.out.2
theorem kLay21 (row:Value) (base n:Nat) (l:List UInt8) (w:World) (v:Int) (t:List UInt8) (A B:Option Addr) (nk ca ny cb:Nat) (h:OwnB base row n l w) (hn:n≤100000000000):Calls Tryz.prog 65 #[row,.agg #[.int .i64 2,.int .i64 1,.string ⟨t.toArray⟩,.slice A nk ca,.slice B ny cb]] w (LayP base (l++[3]) row w):=by
 obtain ⟨i0,hi,hz0,hz1,hz2⟩:=info_parts infoByteK;have HI:=aW hi;have HH0:=aW ((Held.nil w).push 25 #[.int .i64 2,.int .i64 1,.string ⟨t.toArray⟩,.slice A nk ca,.slice B ny cb] (g:=w.heap.size) rfl);have HO:=aW (h.bel HH0.out.1);obtain ⟨W0,hW0⟩:∃ W0,w.alloc (.cells #[.int .i64 2,.int .i64 1,.string ⟨t.toArray⟩,.slice A nk ca,.slice B ny cb] 25)=W0:=⟨_,rfl⟩
 rw [hW0] at HH0 HO;have HW0:=aW hW0;have HFIN:=aW (fun (r:Value) (k:Nat) (w':World) (ho:OwnB base r k (l++[3]) w') (hb:Gr row W0 r w')=>show LayP base (l++[3]) row w (.returned r) w' from ⟨r,k,rfl,ho,(Gr.bel HH0.out.1).trans hb⟩);clear hi h hW0;obtain ⟨c0,f0,l0⟩:=HH0.out.b0.rules;go_enter Tryz.func65,Tryz.ntmps65;go_upto_region 8 with fail;rw [HW0.out];have HA2:=aW (HO.out.2.1.alloc (.cells #[.int .u8 3] 5));have HR2:=aW (Rd.of_blk (Blk.new W0 5 #[.int .u8 3]));have HB2:=aW (show base≤(W0.alloc (.cells #[.int .u8 3] 5)).heap.size by have:=HO.out.2.2;simp;omega);go_wp2_with (at_builtin;refine wpList_append_rd _ rfl _ _ 76 rfl base 5 i0 _ 1 1 Tryz.underlying76 HI.out hz0 hz1 hz2 rfl (by decide) row n (byteV (l)) rfl HA2.out (some ⟨W0.heap.size,0,none⟩) 1 1 (fun h=>by cases h) [.int .u8 3] rfl rfl HR2.out (byteV_one [3]) (by unfold maxLen;omega) (by omega) HB2.out ?_;intro row2 w2 hown2 hgr2 hob2);have H2P:=aW (HO.out.post (m:=[3]) (M:=1) hown2 rfl hgr2 hob2);clear hown2 hgr2 hob2 HA2 HR2 HB2;go_ret;exact HFIN.out _ _ _ H2P.out.1 H2P.out.2
theorem kLay4 (row:Value) (base n:Nat) (l:List UInt8) (w:World) (v:Int) (t:List UInt8) (A B:Option Addr) (nk ca ny cb:Nat) (h:OwnB base row n l w) (hn:n≤100000000000) (ht:t.length≤4194304):Calls Tryz.prog 65 #[row,.agg #[.int .i64 4,.int .i64 v,.string ⟨t.toArray⟩,.slice A nk ca,.slice B ny cb]] w (LayP base (l++codeT t) row w):=by
 obtain ⟨i0,hi,hz0,hz1,hz2⟩:=info_parts infoByteK;have HI:=aW hi;have HH0:=aW ((Held.nil w).push 25 #[.int .i64 4,.int .i64 v,.string ⟨t.toArray⟩,.slice A nk ca,.slice B ny cb] (g:=w.heap.size) rfl);have HO:=aW (h.bel HH0.out.1);obtain ⟨W0,hW0⟩:∃ W0,w.alloc (.cells #[.int .i64 4,.int .i64 v,.string ⟨t.toArray⟩,.slice A nk ca,.slice B ny cb] 25)=W0:=⟨_,rfl⟩
 rw [hW0] at HH0 HO;have HW0:=aW hW0;have HFIN:=aW (fun (r:Value) (k:Nat) (w':World) (ho:OwnB base r k (l++codeT t) w') (hb:Gr row W0 r w')=>show LayP base (l++codeT t) row w (.returned r) w' from ⟨r,k,rfl,ho,(Gr.bel HH0.out.1).trans hb⟩);have HT:=aW (kLayText row base n l t W0 HO.out hn ht);clear hi h hW0;obtain ⟨c0,f0,l0⟩:=HH0.out.b0.rules;go_enter Tryz.func65,Tryz.ntmps65;go_upto_region 16 with fail;rw [HW0.out];go_wp2_with fail;refine HT.out.mono ?_;rintro e w2 ⟨r2,n2,rfl,ho2,hg2⟩;have HX:=aW (HFIN.out _ _ _ ho2 hg2);clear ho2 hg2 c0 f0 l0;go_wp2;go_ret;exact HX.out
def ForV (x:JV):Prop:=∀ (row:Value) (base n:Nat) (l:List UInt8) (cs:List Value) (w:World),OwnB base row n l w→VR w (fun b=>b<base) cs x→n+(codeJ x).length≤100000000000 →
 Calls Tryz.prog 65 #[row,.agg cs.toArray] w (LayP base (l++codeJ x) row w)
theorem kLay5 (row:Value) (base n:Nat) (l:List UInt8) (w:World) (v:Int) (t:List UInt8) (A B:Option Addr) (nk ca ny cb:Nat) (kids:List JV) (keys:List (List UInt8)) (css:List (List Value)) (h:OwnB base row n l w)
  (hvs:VRs w (fun b=>b<base) css kids) (hrA:RdF w (fun b=>b<base) A css.flatten) (hrB:RdF w (fun b=>b<base) B (strV keys)) (hnk:kids.length=nk) (hny:keys.length=ny) (hkk:false=true→nk=ny) (hca:nk≤ca) (hcb:ny≤cb) (hk9:nk≤4194304) (hkl:∀ q ∈ keys,q.length≤4194304)
  (ih:∀ x ∈ kids,ForV x) (hn:n+(6::(codeL false kids keys++[0])).length≤100000000000) :
  Calls Tryz.prog 65 #[row,.agg #[.int .i64 5,.int .i64 v,.string ⟨t.toArray⟩,.slice A nk ca,.slice B ny cb]] w (LayP base (l++6::(codeL false kids keys++[0])) row w):=by
 obtain ⟨i0,hi,hz0,hz1,hz2⟩:=info_parts infoByteK;have HI:=aW hi;have HH0:=aW ((Held.nil w).push 25 #[.int .i64 5,.int .i64 v,.string ⟨t.toArray⟩,.slice A nk ca,.slice B ny cb] (g:=w.heap.size) rfl);have HO:=aW (h.bel HH0.out.1);obtain ⟨W0,hW0⟩:∃ W0,w.alloc (.cells #[.int .i64 5,.int .i64 v,.string ⟨t.toArray⟩,.slice A nk ca,.slice B ny cb] 25)=W0:=⟨_,rfl⟩
 rw [hW0] at HH0 HO;have HW0:=aW hW0;have HFIN:=aW (fun (r:Value) (k:Nat) (w':World) (ho:OwnB base r k (l++6::(codeL false kids keys++[0])) w') (hb:Gr row W0 r w')=>show LayP base (l++6::(codeL false kids keys++[0])) row w (.returned r) w' from ⟨r,k,rfl,ho,(Gr.bel HH0.out.1).trans hb⟩);have HVS:=aW (And.intro hvs (And.intro hrA hrB));have HIH:=aW ih;have HKL:=aW hkl;have HKK:=aW hkk;have HNK:=aW hnk;have HNY:=aW hny;have HLE:=aW (codeL_le false kids keys);have hcl:(codeL false kids keys).length+n+2≤100000000000:=by rw [List.length_cons,List.length_append] at hn;simp at hn;omega
 have HRW:=aW (fun (q:Nat) (e:row.ownBlock=some q)=>show base≤q∧q<w.heap.size from h.2.1.lt q e);have HKF:=aW (fun (r:Value) (wr:World) (hg:Gr row W0 r wr)=>show KeepF (fun b=>b<base) w wr from ((Gr.bel HH0.out.1).trans hg).keepF (fun q hq e=>by have:=(h.2.1.lt q e.symm).1;omega));have HBX:=aW (fun (r:Value) (wr:World) (hg:Gr row W0 r wr)=>hg.blk HH0.out.b0 (fun e=>by have:=(h.2.1.lt _ e.symm).2;omega));clear hi h hW0 hvs hrA hrB ih hkl hnk hny hn hkk;obtain ⟨c0,f0,l0⟩:=HH0.out.b0.rules;go_enter Tryz.func65,Tryz.ntmps65;go_upto_region 17 with fail;rw [HW0.out];have HA2:=aW (HO.out.2.1.alloc (.cells #[.int .u8 6] 5));have HR2:=aW (Rd.of_blk (Blk.new W0 5 #[.int .u8 6]));have HB2:=aW (show base≤(W0.alloc (.cells #[.int .u8 6] 5)).heap.size by have:=HO.out.2.2;simp;omega);go_upto_region 18 with (at_builtin;refine wpList_append_rd _ rfl _ _ 76 rfl base 5 i0 _ 1 1 Tryz.underlying76 HI.out hz0 hz1 hz2 rfl (by decide) row n (byteV (l)) rfl HA2.out (some ⟨W0.heap.size,0,none⟩) 1 1 (fun h=>by cases h) [.int .u8 6] rfl rfl HR2.out (byteV_one [6]) (by unfold maxLen;omega) (by omega) HB2.out ?_;intro row2 w2 hown2 hgr2 hob2);have H2P:=aW (HO.out.post (m:=[6]) (M:=1) hown2 rfl hgr2 hob2);clear hown2 hgr2 hob2 HA2 HR2 HB2;clear c0 f0 l0;obtain ⟨c0,f0,l0⟩:=(HBX.out _ _ H2P.out.2).rules;go_wp2;clear c0 f0 l0;go_loopg [0,66] nk (fun gk s0 s66 wr => ∃ (i m:Nat) (r:Value),r=s0∧i≤nk∧gk=nk-i∧s66=.int .i64 (i:Int)∧Hid (OwnB base r m (l++6::codeL false (kids.take i) keys) wr)∧Hid (Gr row W0 r wr))
 case atStart=>exact ⟨0,n+1,_,rfl,Nat.zero_le _,by go_num,rfl,aW (by rw [List.take_zero,codeL_nil];exact H2P.out.1),aW H2P.out.2⟩
 case round =>
  obtain ⟨i,m,r,rfl,hi,hgk,rfl,HOW,HGW⟩:=hrel;have HG:=aW hgk;clear hgk H2P;obtain ⟨c0,f0,l0⟩:=(HBX.out _ _ HGW.out).rules;have hmn:m=n+1+(codeL false (kids.take i) keys).length:=by
   have h1:=HOW.out.1;rw [List.length_append,List.length_cons,HO.out.1] at h1;omega
  have hle:=HLE.out i (by rw [HNK.out];exact hi);by_cases hlt:i<nk
  ·obtain ⟨x,hx⟩:∃ x,kids[i]? = some x:=⟨_,List.getElem?_eq_getElem (by rw [HNK.out];exact hlt)⟩
   have hKF:=HKF.out _ _ HGW.out;obtain ⟨b,o,kx,nx,sx,Ax,nax,cax,Bx,nbx,cbx,rfl,hb,hfb,hvx,hz⟩:=kid_cellsV HVS.out.1 HVS.out.2.1 hx;obtain ⟨z0,z1,z2,z3,z4⟩:=hz wr hKF;have hlb:b<wr.heap.size:=Nat.lt_of_lt_of_le hb hKF.1;have hsn:=codeL_snoc false i kids keys x hx;have hle2:=HLE.out (i+1) (by rw [HNK.out];omega);rw [hsn,List.length_append,List.length_append] at hle2;have HSN:=aW hsn;have hbA:=(Below.refl wr.heap.size wr).alloc (Nat.le_refl _) (.cells #[.int .i64 kx,.int .i64 nx,.string sx,.slice Ax nax cax,.slice Bx nbx cbx] 25);have HO2:=aW (HOW.out.bel hbA);have HG2:=aW (HGW.out.trans (Gr.bel hbA));have HVX:=aW (hvx.keep hKF);have HXB:=aW (Blk.new wr 25 #[.int .i64 kx,.int .i64 nx,.string sx,.slice Ax nax cax,.slice Bx nbx cbx]);have HIX:=aW (HIH.out x (List.mem_of_getElem? hx));have HRB:=aW (fun (q:Nat) (e:r.ownBlock=some q)=>HOW.out.2.1.lt q e);have HCL:=aW (HIX.out r base m _ _ _ HO2.out (HVX.out.bel hbA) (by have e0:(if false=true then codeT (keys.getD i []) else []).length=0:=rfl;omega));clear hz hx hb hfb hvx hKF hbA hsn;go_wp2_with fail;refine HCL.out.mono ?_;rintro e w3 ⟨r3,m3,rfl,ho3,hg3⟩;have HO3:=aW ho3;have HG3:=aW (HG2.out.trans hg3);clear ho3 hg3 z0 z1 z2 z3 z4 c0 f0 l0;go_wp2;go_roundg (nk-(i+1))
   case measure=>rw [HG.out];omega
   case rel=>exact ⟨i+1,m3,r3,rfl,by omega,rfl,by go_num,aW (by rw [HSN.out];have:=HO3.out;simpa using this),HG3⟩
  ·obtain rfl:i=nk:=by omega
   have hl:kids.take i=kids:=List.take_of_length_le (Nat.le_of_eq HNK.out);rw [hl] at HOW;clear hl c0 f0 l0;have HA3:=aW (HOW.out.2.1.alloc (.cells #[.int .u8 0] 5));have HR3:=aW (Rd.of_blk (Blk.new wr 5 #[.int .u8 0]));have HB3:=aW (show base≤(wr.alloc (.cells #[.int .u8 0] 5)).heap.size by have:=HOW.out.2.2;simp;omega);go_wp2_with (at_builtin;refine wpList_append_rd _ rfl _ _ 76 rfl base 5 i0 _ 1 1 Tryz.underlying76 HI.out hz0 hz1 hz2 rfl (by decide) r m (byteV (l++6::codeL false kids keys)) rfl HA3.out (some ⟨wr.heap.size,0,none⟩) 1 1 (fun h=>by cases h) [.int .u8 0] rfl rfl HR3.out (byteV_one [0]) (by unfold maxLen;omega) (by omega) HB3.out ?_;intro row3 w3 hown3 hgr3 hob3);have H3P:=aW (HOW.out.post (m:=[0]) (M:=1) hown3 rfl hgr3 hob3);clear hown3 hgr3 hob3 HA3 HR3 HB3;have HX:=aW (HFIN.out _ _ _ (by have:=H3P.out.1;simpa using this) (HGW.out.trans H3P.out.2));go_ret;exact HX.out
theorem kLay6 (row:Value) (base n:Nat) (l:List UInt8) (w:World) (v:Int) (t:List UInt8) (A B:Option Addr) (nk ca ny cb:Nat) (kids:List JV) (keys:List (List UInt8)) (css:List (List Value)) (h:OwnB base row n l w)
  (hvs:VRs w (fun b=>b<base) css kids) (hrA:RdF w (fun b=>b<base) A css.flatten) (hrB:RdF w (fun b=>b<base) B (strV keys)) (hnk:kids.length=nk) (hny:keys.length=ny) (hkk:true=true→nk=ny) (hca:nk≤ca) (hcb:ny≤cb) (hk9:nk≤4194304) (hkl:∀ q ∈ keys,q.length≤4194304)
  (ih:∀ x ∈ kids,ForV x) (hn:n+(7::(codeL true kids keys++[0])).length≤100000000000) :
  Calls Tryz.prog 65 #[row,.agg #[.int .i64 6,.int .i64 v,.string ⟨t.toArray⟩,.slice A nk ca,.slice B ny cb]] w (LayP base (l++7::(codeL true kids keys++[0])) row w):=by
 obtain ⟨i0,hi,hz0,hz1,hz2⟩:=info_parts infoByteK;have HI:=aW hi;have HH0:=aW ((Held.nil w).push 25 #[.int .i64 6,.int .i64 v,.string ⟨t.toArray⟩,.slice A nk ca,.slice B ny cb] (g:=w.heap.size) rfl);have HO:=aW (h.bel HH0.out.1);obtain ⟨W0,hW0⟩:∃ W0,w.alloc (.cells #[.int .i64 6,.int .i64 v,.string ⟨t.toArray⟩,.slice A nk ca,.slice B ny cb] 25)=W0:=⟨_,rfl⟩
 rw [hW0] at HH0 HO;have HW0:=aW hW0;have HFIN:=aW (fun (r:Value) (k:Nat) (w':World) (ho:OwnB base r k (l++7::(codeL true kids keys++[0])) w') (hb:Gr row W0 r w')=>show LayP base (l++7::(codeL true kids keys++[0])) row w (.returned r) w' from ⟨r,k,rfl,ho,(Gr.bel HH0.out.1).trans hb⟩);have HVS:=aW (And.intro hvs (And.intro hrA hrB));have HIH:=aW ih;have HKL:=aW hkl;have HKK:=aW hkk;have HNK:=aW hnk;have HNY:=aW hny;have HLE:=aW (codeL_le true kids keys);have hcl:(codeL true kids keys).length+n+2≤100000000000:=by rw [List.length_cons,List.length_append] at hn;simp at hn;omega
 have HRW:=aW (fun (q:Nat) (e:row.ownBlock=some q)=>show base≤q∧q<w.heap.size from h.2.1.lt q e);have HKF:=aW (fun (r:Value) (wr:World) (hg:Gr row W0 r wr)=>show KeepF (fun b=>b<base) w wr from ((Gr.bel HH0.out.1).trans hg).keepF (fun q hq e=>by have:=(h.2.1.lt q e.symm).1;omega));have HBX:=aW (fun (r:Value) (wr:World) (hg:Gr row W0 r wr)=>hg.blk HH0.out.b0 (fun e=>by have:=(h.2.1.lt _ e.symm).2;omega));clear hi h hW0 hvs hrA hrB ih hkl hnk hny hn hkk;obtain ⟨c0,f0,l0⟩:=HH0.out.b0.rules;go_enter Tryz.func65,Tryz.ntmps65;go_upto_region 19 with fail;rw [HW0.out];have HA2:=aW (HO.out.2.1.alloc (.cells #[.int .u8 7] 5));have HR2:=aW (Rd.of_blk (Blk.new W0 5 #[.int .u8 7]));have HB2:=aW (show base≤(W0.alloc (.cells #[.int .u8 7] 5)).heap.size by have:=HO.out.2.2;simp;omega);go_upto_region 20 with (at_builtin;refine wpList_append_rd _ rfl _ _ 76 rfl base 5 i0 _ 1 1 Tryz.underlying76 HI.out hz0 hz1 hz2 rfl (by decide) row n (byteV (l)) rfl HA2.out (some ⟨W0.heap.size,0,none⟩) 1 1 (fun h=>by cases h) [.int .u8 7] rfl rfl HR2.out (byteV_one [7]) (by unfold maxLen;omega) (by omega) HB2.out ?_;intro row2 w2 hown2 hgr2 hob2);have H2P:=aW (HO.out.post (m:=[7]) (M:=1) hown2 rfl hgr2 hob2);clear hown2 hgr2 hob2 HA2 HR2 HB2;clear c0 f0 l0;obtain ⟨c0,f0,l0⟩:=(HBX.out _ _ H2P.out.2).rules;go_wp2;clear c0 f0 l0;go_loopg [0,66] nk (fun gk s0 s66 wr => ∃ (i m:Nat) (r:Value),r=s0∧i≤nk∧gk=nk-i∧s66=.int .i64 (i:Int)∧Hid (OwnB base r m (l++7::codeL true (kids.take i) keys) wr)∧Hid (Gr row W0 r wr))
 case atStart=>exact ⟨0,n+1,_,rfl,Nat.zero_le _,by go_num,rfl,aW (by rw [List.take_zero,codeL_nil];exact H2P.out.1),aW H2P.out.2⟩
 case round =>
  obtain ⟨i,m,r,rfl,hi,hgk,rfl,HOW,HGW⟩:=hrel;have HG:=aW hgk;clear hgk H2P;obtain ⟨c0,f0,l0⟩:=(HBX.out _ _ HGW.out).rules;have hmn:m=n+1+(codeL true (kids.take i) keys).length:=by
   have h1:=HOW.out.1;rw [List.length_append,List.length_cons,HO.out.1] at h1;omega
  have hle:=HLE.out i (by rw [HNK.out];exact hi);by_cases hlt:i<nk
  ·obtain ⟨x,hx⟩:∃ x,kids[i]? = some x:=⟨_,List.getElem?_eq_getElem (by rw [HNK.out];exact hlt)⟩
   have hKF:=HKF.out _ _ HGW.out;obtain ⟨b,o,kx,nx,sx,Ax,nax,cax,Bx,nbx,cbx,rfl,hb,hfb,hvx,hz⟩:=kid_cellsV HVS.out.1 HVS.out.2.1 hx;obtain ⟨z0,z1,z2,z3,z4⟩:=hz wr hKF;have hlb:b<wr.heap.size:=Nat.lt_of_lt_of_le hb hKF.1;have hsn:=codeL_snoc true i kids keys x hx;have hle2:=HLE.out (i+1) (by rw [HNK.out];omega);rw [hsn,List.length_append,List.length_append] at hle2;have HSN:=aW hsn;have hbA:=(Below.refl wr.heap.size wr).alloc (Nat.le_refl _) (.cells #[.int .i64 kx,.int .i64 nx,.string sx,.slice Ax nax cax,.slice Bx nbx cbx] 25);have HO2:=aW (HOW.out.bel hbA);have HG2:=aW (HGW.out.trans (Gr.bel hbA));have HVX:=aW (hvx.keep hKF);have HXB:=aW (Blk.new wr 25 #[.int .i64 kx,.int .i64 nx,.string sx,.slice Ax nax cax,.slice Bx nbx cbx]);have HIX:=aW (HIH.out x (List.mem_of_getElem? hx));have HRB:=aW (fun (q:Nat) (e:r.ownBlock=some q)=>HOW.out.2.1.lt q e);have hy:i<keys.length:=by rw [HNY.out];have:=HKK.out (by first | trivial | rfl);omega
   have hrd:=(HVS.out.2.2).keep hKF;obtain ⟨by_,oy,rfl,hby,_,hcy⟩:=hrd (by intro e;have:=strV_len keys;rw [e] at this;simp at this;omega);have y0:wr.cell? ⟨by_,oy+i,none⟩=some (.string ⟨keys[i].toArray⟩):=by rw [hcy i (by rw [strV_len];exact hy)];simp [strV]
   have hkd:keys.getD i []=keys[i]:=by rw [List.getD_eq_getElem?_getD,List.getElem?_eq_getElem hy,Option.getD_some]
   have hkc:(if true=true then codeT (keys.getD i []) else [])=codeT keys[i]:=by rw [if_pos rfl,hkd]
   rw [hkc] at hle2;obtain ⟨ky,hky⟩:∃ q,keys[i]=q:=⟨_,rfl⟩
   have hkyl:ky.length≤4194304:=by rw [← hky];exact HKL.out _ (List.getElem_mem hy)
   rw [hky] at y0 hle2 hkc;have HKC:=aW hkc;have hiny:i<ny:=by have:=HKK.out (by first | trivial | rfl);omega
   have HTX:=aW (kLayText r base m _ ky _ HO2.out (by omega) hkyl);clear hz hx hb hfb hvx hKF hsn hrd hcy hkc hkd hky hy;go_upto_region 25 with ((go_at_call 102;refine HTX.out.mono ?_;rintro e w3 ⟨r3,m3,rfl,ho3,hg3⟩));have HO3:=aW ho3;have HG3:=aW (HG2.out.trans hg3);have HX3:=aW (hg3.blk HXB.out (fun e=>by have:=(HRB.out _ e.symm).2;omega));have hm3:m3=m+(codeT ky).length:=by have h1:=ho3.1;have h2:=HO2.out.1;rw [List.length_append,h2] at h1;omega
   have HCL:=aW (HIX.out r3 base m3 _ _ _ HO3.out ((HVX.out.bel hbA).keep (hg3.keepF (fun q hq e=>by have:=(HRB.out _ e.symm).1;omega))) (by omega));clear ho3 hg3 z0 z1 z2 z3 z4 c0 f0 l0 y0 hbA;obtain ⟨c0,f0,l0⟩:=HX3.out.rules;go_wp2_with fail;refine HCL.out.mono ?_;rintro e w4 ⟨r4,m4,rfl,ho4,hg4⟩;have HO4:=aW ho4;have HG4:=aW (HG3.out.trans hg4);clear ho4 hg4 c0 f0 l0;go_wp2;go_roundg (nk-(i+1))
   case measure=>rw [HG.out];omega
   case rel=>exact ⟨i+1,m4,r4,rfl,by omega,rfl,by go_num,aW (by rw [HSN.out,HKC.out];have:=HO4.out;simpa using this),HG4⟩
  ·obtain rfl:i=nk:=by omega
   have hl:kids.take i=kids:=List.take_of_length_le (Nat.le_of_eq HNK.out);rw [hl] at HOW;clear hl c0 f0 l0;have HA3:=aW (HOW.out.2.1.alloc (.cells #[.int .u8 0] 5));have HR3:=aW (Rd.of_blk (Blk.new wr 5 #[.int .u8 0]));have HB3:=aW (show base≤(wr.alloc (.cells #[.int .u8 0] 5)).heap.size by have:=HOW.out.2.2;simp;omega);go_wp2_with (at_builtin;refine wpList_append_rd _ rfl _ _ 76 rfl base 5 i0 _ 1 1 Tryz.underlying76 HI.out hz0 hz1 hz2 rfl (by decide) r m (byteV (l++7::codeL true kids keys)) rfl HA3.out (some ⟨wr.heap.size,0,none⟩) 1 1 (fun h=>by cases h) [.int .u8 0] rfl rfl HR3.out (byteV_one [0]) (by unfold maxLen;omega) (by omega) HB3.out ?_;intro row3 w3 hown3 hgr3 hob3);have H3P:=aW (HOW.out.post (m:=[0]) (M:=1) hown3 rfl hgr3 hob3);clear hown3 hgr3 hob3 HA3 HR3 HB3;have HX:=aW (HFIN.out _ _ _ (by have:=H3P.out.1;simpa using this) (HGW.out.trans H3P.out.2));go_ret;exact HX.out
end Go.Proofs.YtgolomgmnanbpaaGreatDoor
