/-
  Small laws and walks on the way to LearnReads: Ro11, Rs37, Wv. Conditions: each theorem names its own.
-/
import Derived.Test.YtgbndaiifbogmaaGreatY25
import Derived.Test.YtgbndaiifbogmaaGreatY28
import Derived.Test.YtgbndaiifbogmaaGreatY20
import Derived.Test.YtgbndaiifbogmaaGreatY13
import Derived.Test.YtgbndaiifbogmaaGreatY16
set_option linter.unusedVariables false
set_option linter.unusedSimpArgs false
set_option maxRecDepth 100000
set_option maxHeartbeats 8000000
namespace Go.Proofs.YtgbndaiifbogmaaGreat
open Go.RowKit Go.Maps
theorem insS_one (b:By) (a:Ad):insS b [a]=match headS b with
  |.error e=>.error e
  |.ok h=>if h.nxt=43∨h.nxt=0 then .error 7
   else if manyW (walkS b h.nxt 40)=true then .error 8
   else if 1500<b.length+40 then .error 4
   else .ok (joinS {h with nxt:=43,dst:=a} (srhB h.nxt 1 [h.dst,a]++b.drop 40)):=by
 unfold insS;cases headS b with
 |error e=>rfl
 |ok h=>
  simp only[List.length_cons,List.length_nil,List.headD_cons,List.reverse_cons,List.reverse_nil,List.nil_append];rw[if_neg (c:=0+1=0∨9<0+1) (by omega)];rfl
theorem sr_segs (n m:Int) (sv:Value) (v:Value):(arrSr ⟨n,m,0,0,[]⟩ sv noV).setIfInBounds 4 v=arrSr ⟨n,m,0,0,[]⟩ v noV:=by kernel_rfl
theorem rinsert_any {w:World} {v sv:Value} {l:By} {a:Ad} (h:SlY w 0 v l) (hb:okB l) (hl:l.length≤1000000) (ha:okA a) (hs:SlD w 0 sv [a]) :
  Calls Tryz.prog 67 #[v,sv,.slice none 0 0] w fun e w'=>RvPost (insS l [a]) w.heap.size e w'∧Chg [] w w':=by
 obtain⟨A,c,rfl⟩:=h.form;obtain⟨A2,c2,rfl⟩:=Sl.form hs;obtain⟨N1,hN1⟩:∃N,N=([a]:List Ad).length:=⟨_,rfl⟩;rw[←hN1]at hs ⊢;have hN2:N1=1:=hN1;have HN1:=zH hN2;obtain⟨hl1,b,o,hA2,_⟩:=SlD.rec hs (i:=0) (x:=a) rfl;clear hl1;subst hA2
 have HRV:Hid (∀W,Chg [] w W→W.rangeAt b o (arrA a).toList):=zH (fun W hc=>by
  obtain⟨hl1,b',o',e2,hr⟩:=SlD.rec (Sl.chg0 hs hc) (i:=0) (x:=a) rfl;simp only[Option.some.injEq,Addr.mk.injEq,and_true]at e2;obtain⟨rfl,rfl⟩:=e2;simpa using hr)
 have HBW:Hid (b<w.heap.size):=zH (World.block_lt_of_cell? w _ (HRV.out w (Chg.refl _ _) 0 _ rfl));have HS:=zH (fun W (hc:Chg [] w W)=>h.chg0 hc);have FH:=zH (rhead_any h hb hl);have HX:=zH (insS_one l a);have HF:=zH (fun h (k:headS l=.ok h)=>headS_fine k hb)
 have HCN:=zH (fun h (k:getH l=.ok h)=>getH_can k hb);have HE:=zH (fun n (k:headS l=.error n)=>headS_err k);have HOK:=zH hb;generalize insS l [a]=x at *;generalize headS l=y at *;have m0:((N1:Int)==0)=false:=by rw[beq_eq_false_iff_ne];omega
 have m9:¬(N1:Int)>9:=by omega
 have m1:IntKind.i64.wrap ((N1:Int)-1)=0:=by rw[IntKind.wrap_i64];omega
 have mI:(0:Int)<(N1:Int):=by omega
 have mJ:0<N1:=by omega
 clear h hb hs hN1 hN2;go_enter Tryz.func67,Tryz.ntmps67
 go_wp2_with fail;refine FH.out.mono ?_;rintro e w1 ⟨rfl,hc1⟩;have hBh:Blk (w1.alloc (.cells arrH0 26)) w1.heap.size 26 arrH0:=Blk.new _ _ _;have HC1:=zH (hc1.alloc (.cells arrH0 26));have hz1:=hc1.size;clear FH hc1;cases y with
 |error n=>
  have hn:=HE.out n rfl;have hX:=HX.out;simp only at hX;replace HX:=zH hX;have hI:(n !=0)=true:=by simpa using hn
  unfold headV;clear HF HE hn hX HRV HS HOK HCN;go_wp2_with (first
   |(refine zs (vs:=arrH0) rfl 26 (.tmp 8) (.tmp 19) rfl rfl hBh rfl rfl rfl infH0 rfl ?_;intro wc hBc hcc)
   |fail)
  go_ret2
  exact⟨RvPost.err HX.out,HC1.out.trans' hcc (zN (by omega))⟩
 |ok h=>
  obtain⟨hos,hod,h40,hget,hlen⟩:=HF.out h rfl;have hcan:=HCN.out h hget;obtain⟨k1,k2,k3,k4,k5⟩:=canH.at hcan;have hX:=HX.out;simp only at hX;replace HX:=zH hX;unfold headV;clear HF HE HCN hX hget hcan;go_upto_region 4 with (first
   |(refine zs (vs:=arrH h) rfl 26 (.tmp 8) (.tmp 19) rfl rfl hBh rfl rfl rfl infH rfl ?_;intro wc hBc hcc)
   |fail)
  have HCc:=zH (HC1.out.trans' hcc (zN (by omega)));have q3:wc.cell? ⟨w1.heap.size,3,none⟩=some (.int .i64 h.nxt):=hBc.cell 3;have hltc:=hBc.lt;clear hBh HC1 hcc;obtain⟨g,hg⟩:∃g,g=w1.heap.size:=⟨_,rfl⟩;rw[←hg]at hBc q3 hltc ⊢;have HG:Hid (w.heap.size≤g):=zH (by omega);clear hg hz1
  by_cases h43:h.nxt=43
  ·have hX:=HX.out;rw[if_pos (.inl h43)]at hX;replace HX:=zH hX;rw[h43]at q3;clear hX h43 HRV HS HOK hBc;go_wp2_with fail;go_ret2
   exact⟨RvPost.err HX.out,HCc.out⟩
  by_cases h00:h.nxt=0
  ·have hX:=HX.out;rw[if_pos (.inr h00)]at hX;replace HX:=zH hX;rw[h00]at q3;clear hX h43 h00 HRV HS HOK hBc;go_wp2_with fail;go_ret2
   exact⟨RvPost.err HX.out,HCc.out⟩
  have hX:=HX.out;rw[if_neg (by omega)]at hX;have n43:(h.nxt==43)=false:=by rw[beq_eq_false_iff_ne];exact h43
  have n00:(h.nxt==0)=false:=by rw[beq_eq_false_iff_ne];exact h00
  have FW:=zH (rwalk_any (HS.out wc HCc.out) HOK.out hl h.nxt h40);have HWE:=zH (fun n (k:walkS l h.nxt 40=.error n)=>walkS_err k);have HWL:=zH (fun L (k:walkS l h.nxt 40=.ok L)=>walkS_len k);generalize walkS l h.nxt 40=y at *;replace HX:=zH hX;clear hX h43 h00;go_wp2_with fail;refine FW.out.mono ?_
  rintro e wd ⟨hp,hcd⟩;have HCd:=zH (HCc.out.trans hcd);have hBd:=hBc.chg hcd (by simp);have hltd:=hBd.lt;clear FW hcd hBc HCc q3;by_cases hm:manyW y=true
  ·obtain⟨L,rfl,h8⟩:∃L,y=.ok L∧8<L.length:=by
    cases y with
    |error n=>simp[manyW]at hm
    |ok L=>exact⟨L,rfl,by simpa[manyW]using hm⟩
   obtain⟨v',rfl,ho⟩:=hp;obtain⟨A5,c5,rfl⟩:=Sl.form (Sl.of_own ho);have hX:=HX.out;rw[if_pos hm]at hX;replace HX:=zH hX;have hI:(L.length:Int)>8:=by omega
   clear hX hm HRV HS HOK hBd HWE HWL ho;go_wp2_with fail;go_ret2
   exact⟨RvPost.err HX.out,HCd.out⟩
  obtain⟨A5,m5,c5,n5,rfl,hN5⟩:∃A5 m5 c5 n5,e=.returned (.tuple #[.slice A5 m5 c5,.int .i64 n5])∧((n5==0)=false∨((n5==0)=true∧¬(m5:Int)>8)):=by
   cases y with
   |error n=>exact⟨_,_,_,_,hp,.inl (by simpa using HWE.out n rfl)⟩
   |ok L=>
    obtain⟨v',e',ho⟩:=hp;obtain⟨A5,c5,rfl⟩:=Sl.form (Sl.of_own ho);refine⟨_,_,_,_,e',.inr ⟨rfl,?_⟩⟩;have:¬8<L.length:=by simpa[manyW]using hm
    omega
  have hX:=HX.out;rw[if_neg hm]at hX;replace HX:=zH hX;clear hX hp HWE HWL hm;go_upto_region 9 with fail
  have HN5:=zH hN5;clear hN5;go_cut [53] (fun v wx=>v=.bool false∧wd=wx)
  case first=>
   clear hBd;rcases HN5.out with h1 | ⟨h1,h2⟩
   ·go_wp2_with fail;go_meet
    exact⟨rfl,rfl⟩
   ·go_wp2_with fail;go_meet
    exact⟨congrArg Value.bool (decide_eq_false (by omega)),rfl⟩
  case rest=>
  obtain⟨rfl,rfl⟩:=hcut;have q3:wd.cell? ⟨g,3,none⟩=some (.int .i64 h.nxt):=hBd.cell 3;clear HN5 n43 n00;have hAl:=(Chg.refl [] wd).alloc (.cells (arrA h.dst) 24);have HOS:Hid (OwD (wd.alloc (.cells (arrA h.dst) 24)) wd.heap.size (.slice (some ⟨wd.heap.size,0,none⟩) 1 1) [h.dst]):=
   zH (own_lit (base:=wd.heap.size) wd 24 16 1 (arrA h.dst) (Nat.le_refl _) (by simp[maxLen]) rfl)
  have hB12:Blk ((wd.alloc (.cells (arrA h.dst) 24)).alloc (.cells arrS0 30)) (wd.heap.size+1) 30 arrS0:=Blk.new' (by simp);have hAl2:=hAl.alloc (.cells arrS0 30);have HBD:=zH (hBd.chg hAl2 (by simp));have HOS2:=zH (own_chg HOS.out ((Chg.refl [] _).alloc (.cells arrS0 30)) (by simp))
  have HAL:=zH hAl2;clear hAl hAl2 HOS;go_upto_region 12 with (first
   |(refine wpList_load_part (vs:=arrA h.dst) rfl 24 (.tmp 58) rfl hBd 21 rfl _ Tryz.underlying24 rfl infAd rfl ?_)
   |(refine zs (vs:=arrSr ⟨h.nxt,N1,0,0,[]⟩ (.slice (some ⟨wd.heap.size,0,none⟩) 1 1) noV) rfl 30 (.tmp 12) (.tmp 62) rfl rfl hB12 rfl rfl rfl infS0 rfl ?_;intro we hBe hce)
   |fail)
  have HCe:=zH ((HCd.out.trans HAL.out).trans' hce (by intro x hx;simp at hx;subst hx;right;have:=HCd.out.size;omega));have hHe:=HBD.out.chg hce (by simp;omega);have HOSe:=zH (own_chg HOS2.out hce (by simp[Value.ownBlock]));have hge:=hHe.lt
  have hwde:wd.heap.size<we.heap.size:=by have:=HAL.out.size;have:=hce.size;simp at this;omega
  clear hB12 hBd HBD HOS2 HAL hce hltc;obtain⟨g12,hg12⟩:∃x,x=wd.heap.size+1:=⟨_,rfl⟩;rw[←hg12]at hBe ⊢;have hgg:g≠g12:=by omega
  have hgd:wd.heap.size≠g12:=by omega
  obtain⟨gd,hgd0⟩:∃x,x=wd.heap.size:=⟨_,rfl⟩;rw[←hgd0]at HOSe hgd hBe hltd ⊢;have HGW:Hid (w.heap.size≤gd∧gd<g12∧g12<we.heap.size∧g<gd):=zH ⟨by have:=HCd.out.size;omega,by omega,hBe.lt,hltd⟩;clear hg12 hgd0 hwde HCd hltd;go_wp2_with fail;have HBe:=zH hBe;clear hBe
  go_loopw [13] (fun iv wr=>(iv=.int .i64 0∧Hid (wr=we))∨(iv=.int .i64 (-1)∧Hid (∃v3,Blk wr g12 30 (arrSr ⟨h.nxt,N1,0,0,[]⟩ v3 noV)∧OwD wr gd v3 [h.dst,a])∧Hid (Chg [gd,g12] we wr))) (fun iv _=>(intOf iv+1).toNat)
  case atStart=>exact .inl ⟨rfl,zH rfl⟩
  case round=>
  rcases hrel with ⟨rfl,HW⟩ | ⟨rfl,HV,HR⟩
  ·obtain rfl:we=wr:=HW.out.symm;clear HW;go_upto_region 15 with fail
   have SR:Hid (∀W,Chg [gd,g12] we W→W.rangeAt b o (arrA a).toList):=zH (fun W hc=>rangeAt_chg (HRV.out we HCe.out) hc (by have:=HBW.out;have:=HGW.out;simp;omega));have hD:Chg [] we we.drew:=(Chg.refl [] we).drew;have hD':(fun W:World=>Chg [gd,g12] we W) we.drew:=hD.more (by simp)
   have hSa:Chg [] we (we.drew.alloc (.cells (arrA a) 24)):=hD.alloc _;have hSa':(fun W:World=>Chg [gd,g12] we W) (we.drew.alloc (.cells (arrA a) 24)):=hSa.more (by simp);have j1:we.drew.cell? ⟨g12,4,none⟩=some (.slice (some ⟨gd,0,none⟩) 1 1):=(HBe.out.chg hD (by simp)).cell 4
   have j2:(we.alloc (.cells (arrA a) 24)).cell? ⟨g12,4,none⟩=some (.slice (some ⟨gd,0,none⟩) 1 1):=(HBe.out.alloc _).cell 4;refine wp_region_noPanic ?_;refine wp_region_held_drew (S:=fun W:World=>Chg [gd,g12] we W) (by kernel_rfl) hD' (fun _=>?_);refine zU 0 rfl (by go_simp<;>with_reducible rfl) ?_
   try simp only[zP]
   refine zU 2 rfl (by go_simp<;>with_reducible rfl) ?_
   try simp only[zP]
   refine zU 3 rfl (by go_simp<;>with_reducible rfl) ?_
   try simp only[zP]
   refine zU 4 rfl (by go_simp<;>with_reducible rfl) ?_
   try simp only[zP]
   refine zT 5 rfl (yields_row (by rfl) 24 (.tmp 74) rfl b o rfl (arrA a) _ SR.out Tryz.underlying24 rfl infAd) ?_
   try simp only[zP]
   refine wpAnyH_ready (rs:=[1,6]) (by kernel_rfl) (by simp) (AllReadyH.cons rfl (fun K hK=>?_) (AllReadyH.cons rfl (fun K hK=>?_) AllReadyH.nil))
   ·refine step_run (v:=.slice (some ⟨gd,0,none⟩) 1 1) (w':=we.drew) rfl (by go_simp) ?_;refine zB hK ?_;clear hK K
    try simp only[zP]
    refine zR 6 rfl (fun K hK=>?_);refine step_run (v:=.slice (some ⟨we.drew.heap.size,0,none⟩) 1 1) (w':=we.drew.alloc (.cells (arrA a) 24)) rfl (by go_simp<;>rfl) ?_;refine zB hK ?_;clear hK K
    try simp only[zP]
    refine zR 7 rfl (fun K hK=>?_);refine step_app elD rfl (.tmp 71) (.tmp 76) rfl gd rfl (own_chg HOSe.out hSa (by simp)) rfl (litD we.drew a) (encA_one _) (by simp[maxLen]) (by simp) (by have:=HGW.out;have:=hSa.size;omega) ?_;intro v3 wf hown3 hc3 hb3
    have hc3':Chg [gd] (we.drew.alloc (.cells (arrA a) 24)) wf:=hc3;have hS3:(fun W:World=>Chg [gd,g12] we W) wf:=(hSa.more (by simp)).trans (hc3'.more (by simp));have hB3:=(HBe.out.chg hSa (by simp)).chg hc3' (by simp;exact fun e=>hgd e.symm);have hO3:OwD wf gd v3 [h.dst,a]:=hown3
    have hv3:=Sl.one (Sl.of_own hown3);obtain⟨A7,c7,rfl⟩:=Sl.form (Sl.of_own hown3);refine zB hK ?_;clear hK K
    try simp only[zP]
    refine zU 8 rfl (by go_simp<;>with_reducible rfl) ?_
    try simp only[zP]
    refine zR 9 rfl (fun K hK=>?_);refine step_store_cell (v:=.slice A7 (1+1) c7) rfl 27 (.tmp 78) (.tmp 77) rfl hB3 rfl rfl rfl (by show _<6;omega) (by kernel_rfl) rfl ?_;intro wg hB4 hc4;have hS4:(fun W:World=>Chg [gd,g12] we W) wg:=Chg.trans hS3 (hc4.more (by simp));rw[sr_segs]at hB4
    refine zB hK ?_;clear hK K
    try simp only[zP]
    refine wpAnyH_done (by kernel_rfl) ?_ _;refine NoPanic.normal ?_;have hx:g12∉(Value.slice A7 (1+1) c7).ownBlock.toList:=fun hm=>by
     rcases (show (Value.slice A7 (1+1) c7).ownBlock=some gd∨(Value.slice A7 (1+1) c7).ownBlock=some (we.drew.alloc (.cells (arrA a) 24)).heap.size from hb3) with e|e
     ·rw[e]at hm;simp at hm;exact hgd hm.symm
     ·rw[e]at hm;simp at hm;have:=HGW.out;omega
    have HR1:Hid (∃v3,Blk wg g12 30 (arrSr ⟨h.nxt,N1,0,0,[]⟩ v3 noV)∧OwD wg gd v3 [h.dst,a]):=zH ⟨_,hB4,own_chg hO3 hc4 (fun y hy hm=>by simp at hm;subst hm;exact hx hy)⟩;have HR2:=zH hS4;clear hx hb3 hO3 hv3 hS4 hB4 hc4 hc3 hc3' hown3 hSa hSa' hS3 hD hD' j1 j2 SR hB3;go_wp2_with fail;go_roundw
    case rel=>exact .inr ⟨by go_num,HR1,HR2⟩
    case measure=>simp[intOf]
   ·refine step_run (v:=.slice (some ⟨we.drew.heap.size,0,none⟩) 1 1) (w':=we.drew.alloc (.cells (arrA a) 24)) rfl (by go_simp<;>rfl) ?_;refine zB hK ?_;clear hK K
    try simp only[zP]
    refine zR 1 rfl (fun K hK=>?_);refine step_run (v:=.slice (some ⟨gd,0,none⟩) 1 1) (w':=we.drew.alloc (.cells (arrA a) 24)) rfl (by go_simp) ?_;refine zB hK ?_;clear hK K
    try simp only[zP]
    refine zR 7 rfl (fun K hK=>?_);refine step_app elD rfl (.tmp 71) (.tmp 76) rfl gd rfl (own_chg HOSe.out hSa (by simp)) rfl (litD we.drew a) (encA_one _) (by simp[maxLen]) (by simp) (by have:=HGW.out;have:=hSa.size;omega) ?_;intro v3 wf hown3 hc3 hb3
    have hc3':Chg [gd] (we.drew.alloc (.cells (arrA a) 24)) wf:=hc3;have hS3:(fun W:World=>Chg [gd,g12] we W) wf:=(hSa.more (by simp)).trans (hc3'.more (by simp));have hB3:=(HBe.out.chg hSa (by simp)).chg hc3' (by simp;exact fun e=>hgd e.symm);have hO3:OwD wf gd v3 [h.dst,a]:=hown3
    have hv3:=Sl.one (Sl.of_own hown3);obtain⟨A7,c7,rfl⟩:=Sl.form (Sl.of_own hown3);refine zB hK ?_;clear hK K
    try simp only[zP]
    refine zU 8 rfl (by go_simp<;>with_reducible rfl) ?_
    try simp only[zP]
    refine zR 9 rfl (fun K hK=>?_);refine step_store_cell (v:=.slice A7 (1+1) c7) rfl 27 (.tmp 78) (.tmp 77) rfl hB3 rfl rfl rfl (by show _<6;omega) (by kernel_rfl) rfl ?_;intro wg hB4 hc4;have hS4:(fun W:World=>Chg [gd,g12] we W) wg:=Chg.trans hS3 (hc4.more (by simp));rw[sr_segs]at hB4
    refine zB hK ?_;clear hK K
    try simp only[zP]
    refine wpAnyH_done (by kernel_rfl) ?_ _;refine NoPanic.normal ?_;have hx:g12∉(Value.slice A7 (1+1) c7).ownBlock.toList:=fun hm=>by
     rcases (show (Value.slice A7 (1+1) c7).ownBlock=some gd∨(Value.slice A7 (1+1) c7).ownBlock=some (we.drew.alloc (.cells (arrA a) 24)).heap.size from hb3) with e|e
     ·rw[e]at hm;simp at hm;exact hgd hm.symm
     ·rw[e]at hm;simp at hm;have:=HGW.out;omega
    have HR1:Hid (∃v3,Blk wg g12 30 (arrSr ⟨h.nxt,N1,0,0,[]⟩ v3 noV)∧OwD wg gd v3 [h.dst,a]):=zH ⟨_,hB4,own_chg hO3 hc4 (fun y hy hm=>by simp at hm;subst hm;exact hx hy)⟩;have HR2:=zH hS4;clear hx hb3 hO3 hv3 hS4 hB4 hc4 hc3 hc3' hown3 hSa hSa' hS3 hD hD' j1 j2 SR hB3;go_wp2_with fail;go_roundw
    case rel=>exact .inr ⟨by go_num,HR1,HR2⟩
    case measure=>simp[intOf]
  ·obtain⟨v3,hB3,hO3⟩:=HV.out;obtain⟨A3,c3,rfl⟩:=Sl.form (Sl.of_own hO3);have hHr:=hHe.chg HR.out (by have:=HGW.out;simp;omega);have HCr:=zH (HCe.out.trans' HR.out (by intro x hx;have:=HGW.out;simp at hx;right;omega))
   have HFS:=zH (rputS_any (n:=h.nxt) (m:=(N1:Int)) (L:=[h.dst,a]) ⟨k4,by rw[HN1.out];simp,by simp,by intro z hz;simp at hz;rcases hz with rfl|rfl;exact hod;exact ha⟩ (Sl.less (B':=0) (Sl.of_own hO3) (Nat.zero_le _)));have HLN:Hid ((srhB h.nxt (N1:Int) [h.dst,a]).length=40):=zH (by rw[srhB_len];rfl)
   have HSB:Hid (srhB h.nxt (N1:Int) [h.dst,a]=srhB h.nxt 1 [h.dst,a]):=zH (by rw[HN1.out];rfl);have hhg:=hHr.lt;clear HV HR hO3 HCe HOSe HBe hHe m0 m9 m1;go_wp2_with (first
    |(refine zl rfl 30 (.tmp 12) rfl hB3 rfl _ Tryz.underlying30 rfl infSr ?_)
    |fail)
   refine HFS.out.mono ?_;rintro e wj ⟨vj,rfl,hoj,hcj⟩;have hHj:=hHr.chg hcj (by simp);have HCj:=zH (HCr.out.trans hcj);obtain⟨Aj,cj,rfl⟩:=Sl.form (Sl.of_own hoj);rw[HSB.out]at hoj;rw[HLN.out];have HL40:Hid ((srhB h.nxt 1 [h.dst,a]).length=40):=zH (by rw[srhB_len];rfl)
   have HSj:Hid (SlY wj wr.heap.size (.slice Aj 40 cj) (srhB h.nxt 1 [h.dst,a])):=zH (by
    have h1:=Sl.of_own hoj;rw[HL40.out]at h1;unfold SlY;rw[HL40.out];exact h1)
   clear HFS hcj hoj hHr HCr hB3 HLN HSB;by_cases hlong:1500<l.length+40
   ·have hX:=HX.out;rw[if_pos hlong]at hX;replace HX:=zH hX;have hw:IntKind.i64.wrap ((l.length:Int)+40)=(l.length:Int)+40:=by rw[IntKind.wrap_i64];omega
    have hI:(l.length:Int)+40>1500:=by omega
    clear hX hlong HS HOK HSj HRV;go_wp2_with fail;go_ret2
    exact⟨RvPost.err HX.out,HCj.out⟩
   have hX:=HX.out;rw[if_neg hlong]at hX;replace HX:=zH hX;have hw:IntKind.i64.wrap ((l.length:Int)+40)=(l.length:Int)+40:=by rw[IntKind.wrap_i64];omega
   have hI:¬(l.length:Int)+40>1500:=by omega
   clear hX;have HNH:Hid (wfH {h with nxt:=43,dst:=a,len:=h.len+40}):=zH ⟨wf64 (n:=h.cls) (by omega),wf64 (n:=h.lab) (by omega),wf64 (n:=h.len+40) (by omega),wf64 (n:=43) (by omega),wf64 (n:=h.hop) (by omega),hos,ha⟩
   have HPJ:Hid (putH {h with nxt:=43,dst:=a,len:=h.len+40} ++ (srhB h.nxt 1 [h.dst,a]++l.drop 40)=joinS {h with nxt:=43,dst:=a} (srhB h.nxt 1 [h.dst,a]++l.drop 40)):=zH (by
    rw[putH_join (by rw[List.length_append,HL40.out,List.length_drop];simp only;omega)];rfl)
   have SR:Hid (∀W,Chg [g] wj W→W.rangeAt b o (arrA a).toList):=zH (fun W hc=>rangeAt_chg (HRV.out wj HCj.out) hc (by have:=HBW.out;have:=HG.out;simp;omega));have hwl:IntKind.i64.wrap (h.len+40)=h.len+40:=by rw[IntKind.wrap_i64];omega
   clear hlen;go_upto_region 21 with fail
   have hD:Chg [g] wj wj.drew:=(Chg.refl _ wj).drew;have j2:wj.drew.cell? ⟨g,2,none⟩=some (.int .i64 h.len):=(hHj.chg ((Chg.refl [] wj).drew) (by simp)).cell 2;have HBj:=zH (hHj.chg ((Chg.refl [] wj).drew) (by simp));refine wp_region_noPanic ?_
   refine wp_region_held_drew (S:=fun W:World=>Chg [g] wj W) (by kernel_rfl) hD (fun _=>?_);refine zU 0 rfl (by go_simp<;>with_reducible rfl) ?_
   try simp only[zP]
   refine zU 1 rfl (by go_simp<;>with_reducible rfl) ?_
   try simp only[zP]
   refine zU 3 rfl (by go_simp<;>with_reducible rfl) ?_
   try simp only[zP]
   refine zU 5 rfl (by go_simp<;>with_reducible rfl) ?_
   try simp only[zP]
   refine zU 6 rfl (by go_simp<;>with_reducible rfl) ?_
   try simp only[zP]
   refine zT 2 rfl (yields_row (by rfl) 24 (.tmp 94) rfl b o rfl (arrA a) _ SR.out Tryz.underlying24 rfl infAd) ?_
   try simp only[zP]
   refine zR 4 rfl (fun K hK=>?_);refine step_run (v:=.int .i64 h.len) (w':=wj.drew) rfl (by go_simp) ?_;refine zB hK ?_;clear hK K
   try simp only[zP]
   refine zU 7 rfl (by go_simp<;>with_reducible rfl) ?_
   try simp only[zP]
   refine zU 8 rfl (by go_simp<;>with_reducible rfl) ?_
   try simp only[zP]
   refine zR 9 rfl (fun K hK=>?_);refine step_store_cell (v:=.int .i64 43) rfl 3 (.tmp 101) _ rfl HBj.out rfl rfl rfl (by show _<37;omega) (by kernel_rfl) rfl ?_;intro wk hB4 hc4;have hC4:(fun W:World=>Chg [g] wj W) wk:=hD.trans hc4;rw[h_nxt]at hB4;clear hc4;refine zB hK ?_;clear hK K
   try simp only[zP]
   refine zU 10 rfl (by go_simp<;>with_reducible rfl) ?_
   try simp only[zP]
   refine zR 11 rfl (fun K hK=>?_);refine step_store_part (vs:=arrA a) rfl 24 (.tmp 102) (.tmp 95) rfl hB4 21 rfl rfl (by show 21+16≤37;omega) infAd rfl (h_dst _ a) ?_;intro wl hB5 hc5;have hC5:(fun W:World=>Chg [g] wj W) wl:=Chg.trans hC4 hc5;clear hc5;refine zB hK ?_;clear hK K
   try simp only[zP]
   refine zU 12 rfl (by go_simp<;>with_reducible rfl) ?_
   try simp only[zP]
   refine zR 13 rfl (fun K hK=>?_);refine step_store_cell (v:=.int .i64 (h.len+40)) rfl 3 (.tmp 103) (.tmp 100) rfl hB5 rfl rfl rfl (by show _<37;omega) (by kernel_rfl) rfl ?_;intro wm hB6 hc6;have hC6:(fun W:World=>Chg [g] wj W) wm:=Chg.trans hC5 hc6;rw[h_len]at hB6;clear hc6;refine zB hK ?_
   clear hK K
   try simp only[zP]
   refine wpAnyH_done (by kernel_rfl) ?_ _;refine NoPanic.normal ?_;have hBm:Blk wm g 26 (arrH {h with nxt:=43,dst:=a,len:=h.len+40}):=hB6;have HCm:=zH (HCj.out.trans' hC6 (by intro x hx;simp at hx;subst hx;right;exact HG.out))
   have HSm:=zH (Sl.less (B':=0) (Sl.chg HSj.out hC6 (by simp;exact hhg)) (Nat.zero_le _));have hDm:Chg [] wm wm.drew:=(Chg.refl _ wm).drew;obtain⟨X,hXr,hXs⟩:=cutYf (HS.out wm HCm.out) (lo:=40) (by omega)
   have hXr':∀W:World,(Instr.slice 22 (.slice A l.length c) (some (.int .i64 40)) none none).run Tryz.prog W=.ok (.slice X (l.length-40) (c-40)) W:=hXr;have HXS:=zH (fun W (hc:Chg [] wm W)=>hXs.chg0 hc);have HSX:=zH (fun W (hc:Chg [] wm W)=>Sl.chg0 HSm.out hc)
   have R0:=zH (fun W (hc:Chg [] wm W)=>(hBm.chg hc (by simp)).rangeQ);have FJ:=zH (rput_any HNH.out wm.drew);have HPL:=zH (putH_le {h with nxt:=43,dst:=a,len:=h.len+40});have HDL:Hid ((l.drop 40).length=l.length-40):=zH (by rw[List.length_drop])
   clear hXs hBm hB4 hB5 hB6 hC4 hC5 hC6 hD j2 HBj SR HRV HS hwl hXr HNH HSj HSm;go_upto_region 22 with fail
   refine wp_region_noPanic ?_;refine wp_region_held_drew (S:=fun W:World=>Chg [] wm W) (by kernel_rfl) hDm (fun _=>?_);refine zT 0 rfl (yields_row (by rfl) 26 (.tmp 8) rfl g 0 rfl (arrH {h with nxt:=43,dst:=a,len:=h.len+40}) _ R0.out Tryz.underlying26 rfl infH) ?_
   try simp only[zP]
   refine zU 2 rfl (by go_simp<;>with_reducible rfl) ?_
   try simp only[zP]
   refine zU 4 rfl (by go_simp<;>with_reducible rfl) ?_
   try simp only[zP]
   refine zU 5 rfl (by go_simp<;>with_reducible rfl) ?_
   try simp only[zP]
   refine zR 1 rfl (fun K hK=>?_);go_simp
   refine FJ.out.mono ?_;rintro e wn ⟨v7,rfl,ho7,hc7⟩;have hC7:(fun W:World=>Chg [] wm W) wn:=hDm.trans hc7;generalize putH {h with nxt:=43,dst:=a,len:=h.len+40} = ph at *;obtain⟨A7,c7,rfl⟩:=Sl.form (Sl.of_own ho7);have hz7:=hc7.size;clear hc7;refine zB hK ?_;clear hK K
   try simp only[zP]
   refine zR 3 rfl (fun K hK=>?_);refine step_app elY rfl (.tmp 105) (.tmp 106) rfl wm.drew.heap.size rfl ho7 rfl (HSX.out _ hC7) (byV_one _) (by have:=HPL.out;have:=HL40.out;unfold maxLen;omega) (by have:=HPL.out;have:=HL40.out;omega) hz7 ?_;intro v8 wo hown8 hc8 hb8
   have hC8:(fun W:World=>Chg [] wm W) wo:=Chg.trans' hC7 hc8 (fun x hx=>.inr (own_lt ho7 x hx).1);have hz8:=Nat.le_trans hz7 hc8.size;have hO8:OwY wo wm.drew.heap.size v8 (ph++srhB h.nxt 1 [h.dst,a]):=OwY.snoc (m:=srhB h.nxt 1 [h.dst,a]) rfl hown8;clear hc8 hown8 ho7 hb8;refine zB hK ?_;clear hK K
   try simp only[zP]
   refine zR 6 rfl (fun K hK=>?_)
   refine step_app elY rfl (.tmp 107) (.tmp 109) rfl wm.drew.heap.size rfl hO8 rfl (HXS.out _ hC8) (byV_one _) (by have:=HPL.out;have:=HL40.out;rw[HDL.out,List.length_append];unfold maxLen;omega) (by have:=HPL.out;have:=HL40.out;rw[HDL.out,List.length_append];omega) hz8 ?_;intro v9 wp hown9 hc9 hb9
   have hC9:(fun W:World=>Chg [] wm W) wp:=Chg.trans' hC8 hc9 (fun x hx=>.inr (own_lt hO8 x hx).1);have HO9:Hid (OwY wp w.heap.size v9 (joinS {h with nxt:=43,dst:=a} (srhB h.nxt 1 [h.dst,a]++l.drop 40))):=zH (by
    have h1:=ownsRow_less (B':=w.heap.size) (OwY.snoc (m:=l.drop 40) rfl hown9) (by have:=HCm.out.size;simp;omega);rw[List.append_assoc,HPJ.out]at h1;exact h1)
   have HC9:=zH (HCm.out.trans hC9);clear hc9 hown9 hO8 hb9;refine zB hK ?_;clear hK K
   try simp only[zP]
   refine zU 7 rfl (by go_simp<;>with_reducible rfl) ?_
   try simp only[zP]
   refine zU 8 rfl (by go_simp<;>with_reducible rfl) ?_
   try simp only[zP]
   refine wpAnyH_done (by kernel_rfl) ?_ _;refine NoPanic.normal ?_;clear hC7 hC8 hC9 hDm FJ R0;go_wp2_with fail;go_ret2
   exact⟨RvPost.ok HX.out HO9.out,HC9.out⟩
end Go.Proofs.YtgbndaiifbogmaaGreat
namespace Go.Proofs.YtgbndaiifbogmaaGreat
open Go.RowKit Go.Maps
theorem rstrip_big {w:World} {v:Value} {l:By} (h:SlY w 0 v l) (hb:okB l) (hl:l.length≤9223372036854775807) :
  Calls Tryz.prog 15 #[v] w fun e w'=>RvPost (stripS l) w.heap.size e w'∧Chg [] w w':=by
 obtain⟨A,c,rfl⟩:=h.form;have FA:=zH (radvance_big h hb hl);have HX:Hid (stripS l=match advS l with | .error e=>.error e | .ok x=>remS x):=zH rfl;have HE:=zH (fun n (k:advS l=.error n)=>advS_err k);have HF:=zH (fun x (k:advS l=.ok x)=>And.intro (advS_fine k hb) (advS_len k hb))
 generalize stripS l=x at *;generalize advS l=y at *;clear h hb;go_enter Tryz.func15,Tryz.ntmps15
 go_wp2_with fail;refine FA.out.mono ?_;rintro e w1 ⟨hp,hc1⟩;cases y with
 |error n=>
  obtain rfl:e=_:=hp;have hn:=HE.out n rfl;have hI:(n !=0)=true:=by simpa using hn
  have hX:=HX.out;simp only at hX;replace hX:=zH hX;clear HX HE HF FA hn;go_wp2_with fail;go_ret2
  exact⟨RvPost.err hX.out,hc1⟩
 |ok z=>
  obtain⟨v1,rfl,ho⟩:=hp;obtain⟨⟨hzl,hzb⟩,hls⟩:=HF.out z rfl;have hX:=HX.out;simp only at hX;have FR:=zH (rremove_any (Sl.less (OwY.sl ho) (Nat.zero_le _)) hzb (by omega));have HC1:=zH hc1;obtain⟨A1,c1,rfl⟩:=(OwY.sl ho).form;rw[←hX]at FR;replace hX:=zH hX;have hz1:=hc1.size
  clear HX HE HF FA hzl hzb ho hc1 hls;go_wp2_with fail;refine FR.out.mono ?_;rintro e w2 ⟨hp,hc2⟩;obtain⟨a,b,rfl,hq⟩:∃a b,e=.returned (.tuple #[a,b])∧RvPost x w.heap.size (.returned (.tuple #[a,b])) w2:=by
   cases x with
   |error n=>obtain rfl:e=_:=hp;exact⟨_,_,rfl,rfl⟩
   |ok y=>obtain⟨v,rfl,ho⟩:=hp;exact⟨_,_,rfl,_,rfl,ownsRow_less ho hz1⟩
  have HP:=zH hq;clear hq hp FR;go_wp2_with fail;go_ret2
  refine⟨?_,HC1.out.trans hc2⟩;have h:=HP.out;exact h
end Go.Proofs.YtgbndaiifbogmaaGreat
namespace Go.Proofs.YtgbndaiifbogmaaGreat
open Go.RowKit Go.Maps
theorem put16_N {w:World} {B:Nat} {v:Value} {l:By} (h:OwY w B v l) (hl:l.length≤90) (hB:B≤w.heap.size) {n:Nat} (hn:n<65536) :
  Calls Tryz.prog 165 #[v,.int .i64 n] w fun e w'=>∃v',e=.returned v'∧OwY w' B v' (l++twoS n)∧Chg v.ownBlock.toList w w':=by
 have h1:Vs.Row8 w B v (l.map Int.ofNat):=by
  unfold Vs.Row8;rw[List.length_map,List.map_map];exact h
 have e1:((n/256:Nat):Int)*256+((n%256:Nat):Int)=(n:Int):=by omega
 have:=Vs.put16_any (x:=((n/256:Nat):Int)) (y:=((n%256:Nat):Int)) h1 (by rw[List.length_map];omega) hB (by omega) (by omega) (by omega) (by omega);rw[e1]at this;refine this.mono ?_;rintro e w' ⟨v',rfl,hr,hc⟩;refine⟨v',rfl,?_,hc⟩;have e2:n/256%256=n/256:=by omega
 unfold Vs.Row8 at hr;unfold OwY twoS;rw[e2];have e3:byV=fun x:Nat=>Value.int .u8 (x:Int):=rfl
 rw[e3];simpa[Function.comp_def]using hr
theorem SlL.lit3 {W:World} {T:TypeId} {v v2 v3:Value} {l l2 l3:By} (h:SlY W 0 v l) (hb:okB l) (hl:l.length≤1000000) (h2:SlY W 0 v2 l2) (hb2:okB l2) (hl2:l2.length≤1000000) (h3:SlY W 0 v3 l3) (hb3:okB l3) (hl3:l3.length≤1000000) :
  SlL (W.alloc (.cells #[v,v2,v3] T)) 0 (.slice (some ⟨W.heap.size,0,none⟩) 3 3) [v,v2,v3] [l,l2,l3]:=
 SlL.lit (vs:=[v,v2,v3]) (Ls:=[l,l2,l3]) rfl (fun i v' l' hv hl'=>by
  match i with
  |0=>simp at hv hl';subst hv hl';exact⟨h,hb,hl⟩
  |1=>simp at hv hl';subst hv hl';exact⟨h2,hb2,hl2⟩
  |2=>simp at hv hl';subst hv hl';exact⟨h3,hb3,hl3⟩
  |j+3=>simp at hv) (by simp)
theorem ptput_any {t:Sg} (hnum:numsT t=true) (k:okW t) {w:World} {pv:Value} {p:By} (hp:SlY w 0 pv p) (hb:okB p) (hl:p.length≤65515) :
  Calls Tryz.prog 299 #[.agg (arrTc t noV pv)] w fun e w'=>(∃v,e=.returned (.tuple #[v,.int .i64 0])∧OwY w' w.heap.size v (tcpB t p))∧Chg [] w w':=by
 obtain⟨A,c,rfl⟩:=hp.form;have hB:Blk (w.alloc (.cells (arrTc t noV (.slice A p.length c)) 34)) w.heap.size 34 (arrTc t noV (.slice A p.length c)):=Blk.new _ _ _;have HA:=zH ((Chg.refl [] w).alloc (.cells (arrTc t noV (.slice A p.length c)) 34));have FC:=zH (fun W=>ptcan_any hnum A (c:=c) hl W)
 have FO:=zH poput0_any;have HPV:=zH (fun W (hc:Chg [] w W)=>hp.chg0 hc);have HPB:=zH hb;clear hp hb;obtain⟨⟨a1,a2⟩,⟨b1,b2⟩,⟨d1,d2⟩,⟨e1,e2⟩,⟨f1,f2⟩,g1,g2⟩:=numsT.at hnum;obtain⟨⟨s1,s2⟩,r1,r2⟩:=k;obtain⟨sport,dport,seq,ack,flags,window,ck,urgent⟩:=t
 simp only at a1 a2 b1 b2 d1 d2 e1 e2 f1 f2 g1 g2 s1 s2 r1 r2;obtain⟨sport,rfl⟩:∃x:Nat,sport=(x:Int):=⟨sport.toNat,by omega⟩;obtain⟨dport,rfl⟩:∃x:Nat,dport=(x:Int):=⟨dport.toNat,by omega⟩;obtain⟨seq,rfl⟩:∃x:Nat,seq=(x:Int):=⟨seq.toNat,by omega⟩
 obtain⟨ack,rfl⟩:∃x:Nat,ack=(x:Int):=⟨ack.toNat,by omega⟩;obtain⟨window,rfl⟩:∃x:Nat,window=(x:Int):=⟨window.toNat,by omega⟩;obtain⟨ck,rfl⟩:∃x:Nat,ck=(x:Int):=⟨ck.toNat,by omega⟩;obtain⟨urgent,rfl⟩:∃x:Nat,urgent=(x:Int):=⟨urgent.toNat,by omega⟩
 have HTB:Hid (tcpB ⟨(sport:Int),(dport:Int),(seq:Int),(ack:Int),flags,(window:Int),(ck:Int),(urgent:Int)⟩ p=twoS sport++twoS dport++fourS seq++fourS ack ++ [80,loB flags]++twoS window++twoS ck++twoS urgent++p):=zH (by
  unfold tcpB;simp only[Int.toNat_natCast];rw[twoS_B (n:=sport) (by omega),twoS_B (n:=dport) (by omega),twoS_B (n:=window) (by omega),twoS_B (n:=ck) (by omega),twoS_B (n:=urgent) (by omega)])
 have HOH:Hid (okB (twoS sport++twoS dport++fourS seq++fourS ack ++ [80,loB flags]++twoS window++twoS ck++twoS urgent)):=zH (by
  have:=tcpB_ok (t:=⟨(sport:Int),(dport:Int),(seq:Int),(ack:Int),flags,(window:Int),(ck:Int),(urgent:Int)⟩) (p:=[]) (by intro x hx;simp at hx);unfold tcpB at this;simp only[Int.toNat_natCast,List.append_nil]at this
  rw[twoS_B (n:=sport) (by omega),twoS_B (n:=dport) (by omega),twoS_B (n:=window) (by omega),twoS_B (n:=ck) (by omega),twoS_B (n:=urgent) (by omega)];exact this)
 have F1:=zH (fun (W:World) (B:Nat) (v:Value) (l:By) (h:OwY W B v l) (hl:l.length≤90) (hB:B≤W.heap.size)=>put16_N h hl hB (n:=sport) (by omega));have F2:=zH (fun (W:World) (B:Nat) (v:Value) (l:By) (h:OwY W B v l) (hl:l.length≤90) (hB:B≤W.heap.size)=>put16_N h hl hB (n:=dport) (by omega))
 have F5:=zH (fun (W:World) (B:Nat) (v:Value) (l:By) (h:OwY W B v l) (hl:l.length≤90) (hB:B≤W.heap.size)=>put16_N h hl hB (n:=window) (by omega));have F6:=zH (fun (W:World) (B:Nat) (v:Value) (l:By) (h:OwY W B v l) (hl:l.length≤90) (hB:B≤W.heap.size)=>put16_N h hl hB (n:=ck) (by omega))
 have F7:=zH (fun (W:World) (B:Nat) (v:Value) (l:By) (h:OwY W B v l) (hl:l.length≤90) (hB:B≤W.heap.size)=>put16_N h hl hB (n:=urgent) (by omega));have HLF:=zH (loB_eq flags);clear a1 a2 b1 b2 d1 d2 e1 e2 f1 f2 g1 g2 s1 s2 r1 r2 hnum
 generalize tcpB ⟨(sport:Int),(dport:Int),(seq:Int),(ack:Int),flags,(window:Int),(ck:Int),(urgent:Int)⟩ p=tb at *;go_enter Tryz.func299,Tryz.ntmps299
 go_wp2_with (first
  |(refine zl rfl 34 (.tmp 1) rfl hB rfl _ Tryz.underlying34 rfl infTc ?_)
  |fail)
 refine (FC.out _).mono ?_;rintro e w1 ⟨rfl,hc1⟩;have hB1:=hB.chg hc1 (by simp);have HC1:=zH (HA.out.trans hc1);have c8:w1.cell? ⟨w.heap.size,8,none⟩=some noV:=hB1.cell 8;clear FC hB hc1 HA;go_wp2_with fail;refine (FO.out _).mono ?_;rintro e wz ⟨rfl,hcz⟩;have HBz:=zH (hB1.chg hcz (by simp))
 have HCz:=zH (HC1.out.trans hcz);have hlt:=HBz.out.lt;have HPZ:=zH (fun W (hc:Chg [] wz W)=>HPV.out W (HCz.out.trans hc));clear FO hB1 hcz HC1 c8 HPV;go_upto_region 5 with fail
 have S0:Hid (∀W,Chg [] wz W→W.cell? ⟨w.heap.size,0,none⟩=some (.int .i64 sport)):=zH (fun W hc=>(HBz.out.chg hc (by simp)).cell 0);have S1:Hid (∀W,Chg [] wz W→W.cell? ⟨w.heap.size,1,none⟩=some (.int .i64 dport)):=zH (fun W hc=>(HBz.out.chg hc (by simp)).cell 1)
 have S2:Hid (∀W,Chg [] wz W→W.cell? ⟨w.heap.size,2,none⟩=some (.int .u32 seq)):=zH (fun W hc=>(HBz.out.chg hc (by simp)).cell 2);have S3:Hid (∀W,Chg [] wz W→W.cell? ⟨w.heap.size,3,none⟩=some (.int .u32 ack)):=zH (fun W hc=>(HBz.out.chg hc (by simp)).cell 3)
 have S4:Hid (∀W,Chg [] wz W→W.cell? ⟨w.heap.size,4,none⟩=some (.int .i64 flags)):=zH (fun W hc=>(HBz.out.chg hc (by simp)).cell 4);have S5:Hid (∀W,Chg [] wz W→W.cell? ⟨w.heap.size,5,none⟩=some (.int .i64 window)):=zH (fun W hc=>(HBz.out.chg hc (by simp)).cell 5)
 have S6:Hid (∀W,Chg [] wz W→W.cell? ⟨w.heap.size,6,none⟩=some (.int .i64 ck)):=zH (fun W hc=>(HBz.out.chg hc (by simp)).cell 6);have S7:Hid (∀W,Chg [] wz W→W.cell? ⟨w.heap.size,7,none⟩=some (.int .i64 urgent)):=zH (fun W hc=>(HBz.out.chg hc (by simp)).cell 7)
 have S9:Hid (∀W,Chg [] wz W→W.cell? ⟨w.heap.size,9,none⟩=some (.slice A p.length c)):=zH (fun W hc=>(HBz.out.chg hc (by simp)).cell 9);have hD:Chg [] wz wz.drew:=(Chg.refl [] wz).drew;have hO0:OwY wz.drew wz.heap.size (.slice none 0 0) []:=OwY.nil _ _;refine wp_region_noPanic ?_
 refine wp_region_held_drew (S:=fun W:World=>Chg [] wz W) (by kernel_rfl) hD (fun _=>?_);refine zU 0 rfl (by go_simp<;>with_reducible rfl) ?_
 try simp only[zP]
 refine zT 1 rfl (zc (by rfl) 3 (.tmp 19) rfl w.heap.size 0 rfl (.int .i64 sport) _ S0.out Tryz.underlying3 rfl) ?_
 try simp only[zP]
 refine zU 3 rfl (by go_simp<;>with_reducible rfl) ?_
 try simp only[zP]
 refine zT 4 rfl (zc (by rfl) 3 (.tmp 22) rfl w.heap.size 1 rfl (.int .i64 dport) _ S1.out Tryz.underlying3 rfl) ?_
 try simp only[zP]
 refine zR 2 rfl (fun K hK=>?_);go_simp
 refine (F1.out _ _ _ _ hO0 (by simp) hD.size).mono ?_;rintro e wa ⟨va,rfl,hoa,hca⟩;have hCa:(fun W:World=>Chg [] wz W) wa:=hD.trans' hca (by intro x hx;simp[Value.ownBlock]at hx);clear hca hO0;refine zB hK ?_;clear hK K
 try simp only[zP]
 refine zR 5 rfl (fun K hK=>?_);go_simp
 refine (F2.out _ _ _ _ hoa (by simp[twoS]) (Chg.size hCa)).mono ?_;rintro e wb ⟨vb,rfl,hob,hcb⟩;have hCb:(fun W:World=>Chg [] wz W) wb:=Chg.trans' hCa hcb (fun x hx=>.inr (own_lt hoa x hx).1);clear hcb hoa hCa;refine zB hK ?_;clear hK K
 try simp only[zP]
 refine zU 6 rfl (by go_simp<;>with_reducible rfl) ?_
 try simp only[zP]
 refine wpAnyH_done (by kernel_rfl) ?_ _;refine NoPanic.normal ?_;have HOb:=zH hob;have HDb:=zH hCb;clear hob hCb hD F1 F2 S0 S1;go_upto_region 6 with fail
 have hD:Chg [] wz wb.drew:=HDb.out.drew;have hO0:=own_chg HOb.out ((Chg.refl [] wb).drew) (by simp);refine wp_region_noPanic ?_;refine wp_region_held_drew (S:=fun W:World=>Chg [] wz W) (by kernel_rfl) hD (fun _=>?_);refine zU 0 rfl (by go_simp<;>with_reducible rfl) ?_
 try simp only[zP]
 refine zU 1 rfl (by go_simp<;>with_reducible rfl) ?_
 try simp only[zP]
 refine zT 2 rfl (zc (by rfl) 31 (.tmp 26) rfl w.heap.size 2 rfl (.int .u32 seq) _ S2.out Tryz.underlying31 rfl) ?_
 try simp only[zP]
 refine zU 4 rfl (by go_simp<;>with_reducible rfl) ?_
 try simp only[zP]
 refine zT 5 rfl (zc (by rfl) 31 (.tmp 29) rfl w.heap.size 3 rfl (.int .u32 ack) _ S3.out Tryz.underlying31 rfl) ?_
 try simp only[zP]
 refine zR 3 rfl (fun K hK=>?_);go_simp
 refine (put32_any hO0 (by simp[twoS]) hD.size seq).mono ?_;rintro e wc ⟨vc,rfl,hoc,hcc⟩;have hCc:(fun W:World=>Chg [] wz W) wc:=Chg.trans' hD hcc (fun x hx=>.inr (own_lt hO0 x hx).1);clear hcc hO0;refine zB hK ?_;clear hK K
 try simp only[zP]
 refine zR 6 rfl (fun K hK=>?_);go_simp
 refine (put32_any hoc (by simp[twoS,fourS]) (Chg.size hCc) ack).mono ?_;rintro e wd ⟨vd,rfl,hod,hcd⟩;have hCd:(fun W:World=>Chg [] wz W) wd:=Chg.trans' hCc hcd (fun x hx=>.inr (own_lt hoc x hx).1);clear hcd hoc hCc;refine zB hK ?_;clear hK K
 try simp only[zP]
 refine zU 7 rfl (by go_simp<;>with_reducible rfl) ?_
 try simp only[zP]
 refine wpAnyH_done (by kernel_rfl) ?_ _;refine NoPanic.normal ?_;have HOd:Hid (OwY wd wz.heap.size vd (twoS sport++twoS dport++fourS seq++fourS ack)):=zH hod;have HDd:=zH hCd;clear hod hCd hD S2 S3 HOb HDb;have hf:=S4.out wd HDd.out;have hlf:=HLF.out
 have hAl:=(Chg.refl [] wd).alloc (.cells #[byV 80,byV (loB flags)] 5);have HOl:=zH (own_chg HOd.out hAl (by simp));have HTl:Hid (Sl (wd.alloc (.cells #[byV 80,byV (loB flags)] 5)) 0 1 (.slice (some ⟨wd.heap.size,0,none⟩) 2 2) 2 ([80,loB flags].map byV)):=
  zH (Sl.of_own (own_lit (base:=0) wd 5 1 2 #[byV 80,byV (loB flags)] (Nat.zero_le _) (by simp[maxLen]) rfl))
 have HDl:=zH (HDd.out.trans hAl);have hzl:=HDl.out.size;have hll:=zH (own_lt HOl.out);clear hAl HOd HDd HLF S4;go_upto_region 8 with (first
  |(at_builtin;refine wpList_app elY rfl (.tmp 32) (.tmp 42) rfl wz.heap.size rfl HOl.out rfl HTl.out (byV_one _) (by simp[maxLen,twoS,fourS]) (by simp[twoS,fourS]) hzl ?_;intro vm wm hownm hcm hbm)
  |fail)
 have HDm:=zH (HDl.out.trans' hcm (fun x hx=>.inr (hll.out x hx).1));have HOm:=zH (OwY.snoc (m:=[80,loB flags]) rfl hownm);clear HOl HTl HDl hll hzl hownm hcm hbm hf hlf;have hD:Chg [] wz wm.drew:=HDm.out.drew;have hO0:=own_chg HOm.out ((Chg.refl [] wm).drew) (by simp);refine wp_region_noPanic ?_
 refine wp_region_held_drew (S:=fun W:World=>Chg [] wz W) (by kernel_rfl) hD (fun _=>?_);refine zU 0 rfl (by go_simp<;>with_reducible rfl) ?_
 try simp only[zP]
 refine zU 1 rfl (by go_simp<;>with_reducible rfl) ?_
 try simp only[zP]
 refine zT 2 rfl (zc (by rfl) 3 (.tmp 45) rfl w.heap.size 5 rfl (.int .i64 window) _ S5.out Tryz.underlying3 rfl) ?_
 try simp only[zP]
 refine zU 4 rfl (by go_simp<;>with_reducible rfl) ?_
 try simp only[zP]
 refine zT 5 rfl (zc (by rfl) 3 (.tmp 48) rfl w.heap.size 6 rfl (.int .i64 ck) _ S6.out Tryz.underlying3 rfl) ?_
 try simp only[zP]
 refine zU 7 rfl (by go_simp<;>with_reducible rfl) ?_
 try simp only[zP]
 refine zT 8 rfl (zc (by rfl) 3 (.tmp 51) rfl w.heap.size 7 rfl (.int .i64 urgent) _ S7.out Tryz.underlying3 rfl) ?_
 try simp only[zP]
 refine zR 3 rfl (fun K hK=>?_);go_simp
 refine (F5.out _ _ _ _ hO0 (by simp[twoS,fourS]) hD.size).mono ?_;rintro e we ⟨ve,rfl,hoe,hce⟩;have hCe:(fun W:World=>Chg [] wz W) we:=Chg.trans' hD hce (fun x hx=>.inr (own_lt hO0 x hx).1);clear hce hO0;refine zB hK ?_;clear hK K
 try simp only[zP]
 refine zR 6 rfl (fun K hK=>?_);go_simp
 refine (F6.out _ _ _ _ hoe (by simp[twoS,fourS]) (Chg.size hCe)).mono ?_;rintro e wf ⟨vf,rfl,hof,hcf⟩;have hCf:(fun W:World=>Chg [] wz W) wf:=Chg.trans' hCe hcf (fun x hx=>.inr (own_lt hoe x hx).1);clear hcf hoe hCe;refine zB hK ?_;clear hK K
 try simp only[zP]
 refine zR 9 rfl (fun K hK=>?_);go_simp
 refine (F7.out _ _ _ _ hof (by simp[twoS,fourS]) (Chg.size hCf)).mono ?_;rintro e wg ⟨vg,rfl,hog,hcg⟩;have hCg:(fun W:World=>Chg [] wz W) wg:=Chg.trans' hCf hcg (fun x hx=>.inr (own_lt hof x hx).1);clear hcg hof hCf;refine zB hK ?_;clear hK K
 try simp only[zP]
 refine zU 10 rfl (by go_simp<;>with_reducible rfl) ?_
 try simp only[zP]
 refine wpAnyH_done (by kernel_rfl) ?_ _;refine NoPanic.normal ?_;have HDg:=zH hCg;obtain⟨Ag,cg,rfl⟩:=Sl.form (Sl.of_own hog);have hs:=(OwY.sl hog).less (Nat.zero_le _);have hp:=HPZ.out wg hCg
 have HL:=zH (SlL.lit3 (T:=22) (W:=wg) hs HOH.out (by simp[twoS,fourS]) (SlY.nil wg 0) (by intro x hx;simp at hx) (by simp) hp HPB.out (by omega))
 have HAg:=zH ((Chg.refl [] wg).alloc (.cells #[.slice Ag (twoS sport++twoS dport++fourS seq++fourS ack ++ [80,loB flags]++twoS window++twoS ck++twoS urgent).length cg,.slice none 0 0,.slice A p.length c] 22));have c9:=S9.out wg hCg;have FJ:=zH (join_any HL.out (by simp) (by simp[twoS,fourS];omega))
 have HZ:=zH (HAg.out.size);clear hs hp HL hCg hog hD S5 S6 S7 S9 HOm HDm F5 F6 F7 HOH HPB HPZ;go_wp2_with fail;refine FJ.out.mono ?_;rintro e wh ⟨vh,rfl,hoh,hch⟩;have HE:Hid (OwY wh w.heap.size vh tb):=zH (by
  have h1:=ownsRow_less (B':=w.heap.size) hoh (by have:=HZ.out;have:=HDg.out.size;omega);have e:[twoS sport++twoS dport++fourS seq++fourS ack ++ [80,loB flags]++twoS window++twoS ck++twoS urgent,[],p].flatten=tb:=by
   rw[HTB.out];simp
  rw[e]at h1;exact h1)
 have HC:=zH (((HCz.out.trans HDg.out).trans HAg.out).trans hch);clear hoh hch FJ;go_wp2_with fail;go_ret2
 exact⟨⟨_,rfl,HE.out⟩,HC.out⟩
end Go.Proofs.YtgbndaiifbogmaaGreat
