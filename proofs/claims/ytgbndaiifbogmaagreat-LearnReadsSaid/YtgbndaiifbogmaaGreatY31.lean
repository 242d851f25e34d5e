/-
  Small laws and walks on the way to LearnReads: Wy, Wz, Ag4. Conditions: each theorem names its own.
-/
import Derived.Test.YtgbndaiifbogmaaGreatY30
import Derived.Test.YtgbndaiifbogmaaGreatY29
import Derived.Test.YtgbndaiifbogmaaGreatY20
import Derived.Test.YtgbndaiifbogmaaGreatY17
set_option linter.unusedVariables false
set_option linter.unusedSimpArgs false
set_option maxRecDepth 100000
set_option maxHeartbeats 8000000
namespace Go.Proofs.YtgbndaiifbogmaaGreat
open Go.RowKit Go.Maps
theorem srhB_ok {n m:Int} {L:List Ad} (h:∀a∈L,okA a):okB (srhB n m L):=by
 intro x hx;unfold srhB at hx;rcases List.mem_append.1 hx with hx|hx
 ·have h1:=loB_lt n;have h2:=loB_lt (2*(L.length:Int));have h3:=loB_lt m;have h4:=loB_lt ((L.length:Int)-1);simp only[List.mem_cons,List.not_mem_nil,or_false]at hx;omega
 ·unfold segsB at hx;obtain⟨a,ha,hxa⟩:=List.mem_flatMap.1 hx;exact adB_lt (h a ha) x hxa
theorem insert_any {w:World} {v sv:Value} {l:By} {a:Ad} (h:SlY w 0 v l) (hb:okB l) (hl:l.length≤1000000) (ha:okA a) (hs:SlD w 0 sv [a]) :
  Calls Tryz.prog 302 #[v,sv,.slice none 0 0] w fun e w'=>GivePost (insS l [a]) w.heap.size e w'∧Chg [] w w':=by
 obtain⟨A,c,rfl⟩:=h.form;obtain⟨A2,c2,rfl⟩:=Sl.form hs;obtain⟨N1,hN1⟩:∃N,N=([a]:List Ad).length:=⟨_,rfl⟩;have HSV0:Hid (∀W,Chg [] w W→SlD W 0 (.slice A2 ([a]:List Ad).length c2) [a]):=zH (fun W hc=>Sl.chg0 hs hc);rw[←hN1]at hs HSV0 ⊢;have hN2:N1=1:=hN1;have HN1:=zH hN2
 obtain⟨hl1,b,o,hA2,_⟩:=SlD.rec hs (i:=0) (x:=a) rfl;clear hl1;subst hA2;have HRV:Hid (∀W,Chg [] w W→W.rangeAt b o (arrA a).toList):=zH (fun W hc=>by
  obtain⟨hl1,b',o',e2,hr⟩:=SlD.rec (Sl.chg0 hs hc) (i:=0) (x:=a) rfl;simp only[Option.some.injEq,Addr.mk.injEq,and_true]at e2;obtain⟨rfl,rfl⟩:=e2;simpa using hr)
 have HBW:Hid (b<w.heap.size):=zH (World.block_lt_of_cell? w _ (HRV.out w (Chg.refl _ _) 0 _ rfl));have HS:=zH (fun W (hc:Chg [] w W)=>h.chg0 hc);have FH:=zH (dhead_any h hb hl);have HX:=zH (insS_one l a);have HF:=zH (fun h (k:headS l=.ok h)=>headS_fine k hb)
 have HCN:=zH (fun h (k:getH l=.ok h)=>getH_can k hb);have HOK:=zH hb;generalize insS l [a]=x at *;generalize headS l=y at *;have m0:(0:Int)<(N1:Int):=by omega
 have m9:(N1:Int)<10:=by omega
 have mJ:0<N1:=by omega
 clear h hb hs hN1 hN2;go_enter Tryz.func302,Tryz.ntmps302
 go_wp2_with fail;refine FH.out.mono ?_;rintro e w1 ⟨hp,hc1⟩;cases y with
 |error n=>
  obtain rfl:e=_:=hp;have hX:=zH HX.out;simp only at hX;exact⟨rfl,GivePost.err hX.out,hc1⟩
 |ok h=>
  obtain rfl:e=_:=hp;have hBh:Blk (w1.alloc (.cells arrH0 26)) w1.heap.size 26 arrH0:=Blk.new _ _ _;have HC1:=zH (hc1.alloc (.cells arrH0 26));have hz1:=hc1.size;obtain⟨hos,hod,h40,hget,hlen⟩:=HF.out h rfl;have hcan:=HCN.out h hget;obtain⟨k1,k2,k3,k4,k5⟩:=canH.at hcan;have hX:=HX.out;simp only at hX
  replace HX:=zH hX;clear HF HCN hX hget hcan FH hc1;go_upto_region 2 with (first
   |(refine zs (vs:=arrH h) rfl 26 (.tmp 7) (.tmp 14) rfl rfl hBh rfl rfl rfl infH rfl ?_;intro wc hBc hcc)
   |fail)
  have HCc:=zH (HC1.out.trans' hcc (zN (by omega)));have q3:wc.cell? ⟨w1.heap.size,3,none⟩=some (.int .i64 h.nxt):=hBc.cell 3;have hltc:=hBc.lt;clear hBh HC1 hcc;obtain⟨g,hg⟩:∃g,g=w1.heap.size:=⟨_,rfl⟩;rw[←hg]at hBc q3 hltc ⊢;have HG:Hid (w.heap.size≤g):=zH (by omega);clear hg hz1
  by_cases h43:h.nxt=43∨h.nxt=0
  ·have hX:=HX.out;rw[if_pos h43]at hX;replace HX:=zH hX;have FS:=zH (fun W=>so_no 7 W);rcases h43 with h43|h43
   ·rw[h43]at q3;clear hX h43 HRV HS HOK hBc;go_wp2_with fail;refine (FS.out _).mono ?_;rintro e w4 ⟨rfl,hw4⟩;rw[hw4]at HCc;exact⟨rfl,GivePost.err HX.out,HCc.out⟩
   ·rw[h43]at q3;clear hX h43 HRV HS HOK hBc;go_wp2_with fail;refine (FS.out _).mono ?_;rintro e w4 ⟨rfl,hw4⟩;rw[hw4]at HCc;exact⟨rfl,GivePost.err HX.out,HCc.out⟩
  have hX:=HX.out;rw[if_neg h43]at hX;have n43:(h.nxt !=43)=true:=by rw[bne_iff_ne];omega
  have n00:(h.nxt !=0)=true:=by rw[bne_iff_ne];omega
  have FS:=zH (fun W=>so_ok 7 W);have FS2:=zH (fun W=>so_ok 8 W);replace HX:=zH hX;clear hX h43;go_wp2_with fail;refine (FS.out _).mono ?_;rintro e w4 ⟨rfl,hw4⟩;rw[hw4]at HCc hBc hltc;clear hw4 FS q3;go_wp2_with fail;refine (FS2.out _).mono ?_;rintro e w5 ⟨rfl,hw5⟩;rw[hw5]at HCc hBc hltc;clear hw5
  have q3:w5.cell? ⟨g,3,none⟩=some (.int .i64 h.nxt):=hBc.cell 3;have FW:=zH (walk_any (HS.out w5 HCc.out) HOK.out hl h.nxt (at_:=40) (by omega));have HWE:=zH (fun n (k:walkS l h.nxt 40=.error n)=>walkS_err k);generalize walkS l h.nxt 40=y at *;clear n43 n00;go_wp2_with fail;refine FW.out.mono ?_
  rintro e wd ⟨hp,hcd⟩;have HCd:=zH (HCc.out.trans hcd);have hBd:=hBc.chg hcd (by simp);have hltd:=hBd.lt;clear FW hcd hBc HCc q3;by_cases hm:manyW y=true
  ·obtain⟨L,rfl,h8⟩:∃L,y=.ok L∧8<L.length:=by
    cases y with
    |error n=>simp[manyW]at hm
    |ok L=>exact⟨L,rfl,by simpa[manyW]using hm⟩
   obtain⟨v',rfl,ho⟩:=hp;obtain⟨A5,c5,rfl⟩:=Sl.form (Sl.of_own ho);have hX:=HX.out;rw[if_pos hm]at hX;replace HX:=zH hX;have hI:decide ((L.length:Int)≤8)=false:=decide_eq_false (by omega);have FS:=zH (fun W=>so_no 8 W);clear hX hm HRV HS HOK hBd HWE ho FS2 h8;go_wp2_with fail
   refine (FS.out _).mono ?_;rintro e w4 ⟨rfl,hw4⟩;rw[hw4]at HCd;exact⟨rfl,GivePost.err HX.out,HCd.out⟩
  obtain⟨A5,m5,c5,n5,rfl,hN5⟩:∃A5 m5 c5 n5,e=.returned (.tuple #[.slice A5 m5 c5,.int .i64 n5])∧((n5 !=0)=true∨((n5 !=0)=false∧(m5:Int)≤8)):=by
   cases y with
   |error n=>exact⟨_,_,_,_,hp,.inl (by simpa using HWE.out n rfl)⟩
   |ok L=>
    obtain⟨v',e',ho⟩:=hp;obtain⟨A5,c5,rfl⟩:=Sl.form (Sl.of_own ho);refine⟨_,_,_,_,e',.inr ⟨rfl,?_⟩⟩;have:¬8<L.length:=by simpa[manyW]using hm
    omega
  have hX:=HX.out;rw[if_neg hm]at hX;replace HX:=zH hX;clear hX hp HWE hm;go_upto_region 5 with fail
  have HN5:=zH hN5;clear hN5;go_cut [] (fun wx=>wd=wx)
  case first=>
   clear hBd;rcases HN5.out with h1 | ⟨h1,h2⟩
   ·go_wp2_with fail;refine (FS2.out _).mono ?_;rintro e w5 ⟨rfl,hw5⟩;go_wp2_with fail;go_meet
    exact hw5
   ·go_wp2_with fail;refine (FS2.out _).mono ?_;rintro e w5 ⟨rfl,hw5⟩;go_wp2_with fail;go_meet
    exact hw5
  case rest=>
  obtain rfl:=hcut;clear HN5 FS2;have HBd:=zH hBd;have HCL:=zH (fun W (hc:Chg [] wd W)=>cloneAd_any (v:=.slice (some ⟨b,o,none⟩) N1 c2) (HSV0.out W (HCd.out.trans hc)) (by simp));clear hBd;go_upto_region 6 with fail
  go_cut [10] (fun v wx=>∃g12,v=.pointer (some ⟨g12,0,none⟩)∧Hid (∃gd cd,Blk wx g12 30 (arrSr ⟨h.nxt,1,0,0,[]⟩ (.slice (some ⟨gd,0,none⟩) 1 cd) noV)∧OwD wx wd.heap.size (.slice (some ⟨gd,0,none⟩) 1 cd) [a]∧gd≠g12∧wd.heap.size≤g12∧Chg [] wd wx))
  case first=>
   have S3:Hid (∀W,Chg [] wd W→W.cell? ⟨g,3,none⟩=some (.int .i64 h.nxt)):=zH (fun W hc=>(HBd.out.chg hc (by simp)).cell 3);have hD:Chg [] wd wd.drew:=(Chg.refl [] wd).drew;obtain rfl:N1=1:=HN1.out;refine wp_region_noPanic ?_
   refine wp_region_held_drew (S:=fun W:World=>Chg [] wd W) (by kernel_rfl) hD (fun _=>?_);refine zU 0 rfl (by go_simp<;>with_reducible rfl) ?_
   try simp only[zP]
   refine zU 2 rfl (by go_simp<;>with_reducible rfl) ?_
   try simp only[zP]
   refine zU 3 rfl (by go_simp<;>with_reducible rfl) ?_
   try simp only[zP]
   refine zU 4 rfl (by go_simp<;>with_reducible rfl) ?_
   try simp only[zP]
   refine zU 5 rfl (by go_simp<;>with_reducible rfl) ?_
   try simp only[zP]
   refine zT 1 rfl (zc (by rfl) 3 (.tmp 48) rfl g 3 rfl (.int .i64 h.nxt) _ S3.out Tryz.underlying3 rfl) ?_
   try simp only[zP]
   refine wpAnyH_ready (rs:=[6,8]) (by kernel_rfl) (by simp) (AllReadyH.cons rfl (fun K hK=>?_) (AllReadyH.cons rfl (fun K hK=>?_) AllReadyH.nil))
   ·go_simp
    refine (HCL.out _ hD).mono ?_;rintro e wy ⟨vy,rfl,hoy,hcy⟩;obtain⟨gd,cd,rfl,hgd,hgdl⟩:=own_form hoy (by simp);have hCy:(fun W:World=>Chg [] wd W) wy:=hD.trans hcy;have hdz:wd.heap.size≤wy.heap.size:=Chg.size hCy;refine zB hK ?_;clear hK K
    try simp only[zP]
    refine zU 7 rfl (by go_simp<;>with_reducible rfl) ?_
    try simp only[zP]
    refine zR 8 rfl (fun K hK=>?_);refine step_run (v:=.pointer (some ⟨wy.heap.size,0,none⟩)) (w':=wy.alloc (.cells arrS0 30)) rfl (by go_simp<;>rfl) ?_;have hCz:(fun W:World=>Chg [] wd W) (wy.alloc (.cells arrS0 30)):=Chg.alloc hCy _
    have hB12:Blk (wy.alloc (.cells arrS0 30)) wy.heap.size 30 arrS0:=Blk.new _ _ _;have hOz:OwD (wy.alloc (.cells arrS0 30)) wd.heap.size (.slice (some ⟨gd,0,none⟩) 1 cd) [a]:=own_chg hoy ((Chg.refl [] wy).alloc _) (by simp);obtain⟨g12,hg12⟩:∃x,x=wy.heap.size:=⟨_,rfl⟩;rw[←hg12]at hB12 ⊢
    have hgne:gd≠g12:=by omega
    have hge12:wd.heap.size≤g12:=by omega
    refine zB hK ?_;clear hK K
    try simp only[zP]
    refine zR 9 rfl (fun K hK=>?_);refine step_store_blk (vs:=arrSr ⟨h.nxt,1,0,0,[]⟩ (.slice (some ⟨gd,0,none⟩) 1 cd) noV) rfl 30 (.tmp 10) (.tmp 55) rfl hB12 rfl rfl rfl infS0 rfl ?_;intro we hBe hce
    have hCe:(fun W:World=>Chg [] wd W) we:=Chg.trans' hCz hce (by intro x hx;simp at hx;subst hx;right;exact hge12);refine zB hK ?_;clear hK K
    try simp only[zP]
    refine wpAnyH_done (by kernel_rfl) ?_ _;refine NoPanic.normal ?_;go_wp2_with fail;go_meet
    subst hg12;exact⟨_,rfl,zH ⟨gd,cd,hBe,own_chg hOz hce (fun y hy hm=>by
     have e1:y=gd:=by simpa[Value.ownBlock]using hy
     have e2:=List.mem_singleton.1 hm;exact hgne (e1.symm.trans e2)),hgne,hge12,hCe⟩⟩
   ·refine step_run (v:=.pointer (some ⟨wd.heap.size,0,none⟩)) (w':=wd.drew.alloc (.cells arrS0 30)) rfl (by go_simp<;>rfl) ?_;have hCy:(fun W:World=>Chg [] wd W) (wd.drew.alloc (.cells arrS0 30)):=hD.alloc _;have hB0:Blk (wd.drew.alloc (.cells arrS0 30)) wd.heap.size 30 arrS0:=Blk.new wd.drew _ _
    refine zB hK ?_;clear hK K
    try simp only[zP]
    refine zR 6 rfl (fun K hK=>?_);go_simp
    refine (HCL.out _ hCy).mono ?_;rintro e wy ⟨vy,rfl,hoy,hcy⟩;obtain⟨gd,cd,rfl,hgd,hgdl⟩:=own_form hoy (by simp);have hCz:(fun W:World=>Chg [] wd W) wy:=Chg.trans hCy hcy;have hgd2:wd.heap.size+1≤gd:=by simpa using hgd
    have hB12:=hB0.chg hcy (by simp);have hOz:OwD wy wd.heap.size (.slice (some ⟨gd,0,none⟩) 1 cd) [a]:=ownsRow_less hoy (by simp);obtain⟨g12,hg12⟩:∃x,x=wd.heap.size:=⟨_,rfl⟩;have hgne:gd≠g12:=by omega
    have hge12:wd.heap.size≤g12:=by omega
    rw[←hg12]at hB12 ⊢;refine zB hK ?_;clear hK K
    try simp only[zP]
    refine zU 7 rfl (by go_simp<;>with_reducible rfl) ?_
    try simp only[zP]
    refine zR 9 rfl (fun K hK=>?_);refine step_store_blk (vs:=arrSr ⟨h.nxt,1,0,0,[]⟩ (.slice (some ⟨gd,0,none⟩) 1 cd) noV) rfl 30 (.tmp 10) (.tmp 55) rfl hB12 rfl rfl rfl infS0 rfl ?_;intro we hBe hce
    have hCe:(fun W:World=>Chg [] wd W) we:=Chg.trans' hCz hce (by intro x hx;simp at hx;subst hx;right;exact hge12);refine zB hK ?_;clear hK K
    try simp only[zP]
    refine wpAnyH_done (by kernel_rfl) ?_ _;refine NoPanic.normal ?_;go_wp2_with fail;go_meet
    subst hg12;exact⟨_,rfl,zH ⟨gd,cd,hBe,own_chg hOz hce (fun y hy hm=>by
     have e1:y=gd:=by simpa[Value.ownBlock]using hy
     have e2:=List.mem_singleton.1 hm;exact hgne (e1.symm.trans e2)),hgne,hge12,hCe⟩⟩
  case rest=>
  obtain⟨g12,rfl,HCUT⟩:=hcut;obtain⟨gd,cd,hBe,hOe,hgne,hge12,hCe⟩:=HCUT.out;have hHe:=HBd.out.chg hCe (by simp);have HCe:=zH (HCd.out.trans hCe);have hgd:wd.heap.size≤gd∧gd<wc.heap.size:=own_lt hOe gd (by simp[Value.ownBlock]);have hg12l:=hBe.lt
  have HGD:=zH (And.intro hgd (And.intro hgne (And.intro hge12 hltd)));have hAl:=(Chg.refl [] wc).alloc (.cells (arrA h.dst) 24);have HOl:=zH (own_chg hOe hAl (by simp));have HLit:=zH (litD wc h.dst);have HBl:=zH (hBe.chg hAl (by simp))
  have hz3:wd.heap.size≤(wc.alloc (.cells (arrA h.dst) 24)).heap.size:=by have:=hCe.size;simp;omega
  have x4:wc.cell? ⟨g12,4,none⟩=some (.slice (some ⟨gd,0,none⟩) 1 cd):=hBe.cell 4;have HAl:=zH hAl;have HHe:=zH (hHe.chg hAl (by simp));clear hCe hBe hOe HCUT hAl HCL hgd hge12 hltd;go_upto_region 8 with (first
   |(refine wpList_load_part (vs:=arrA h.dst) rfl 24 (.tmp 58) rfl hHe 21 rfl _ Tryz.underlying24 rfl infAd rfl ?_)
   |(at_builtin;refine wpList_app elD rfl (.tmp 57) (.tmp 60) rfl wd.heap.size rfl HOl.out rfl HLit.out (encA_one _) (by simp[maxLen]) (by simp) hz3 ?_;intro v3 wf hown3 hc3 hb3;obtain⟨g2,c3,rfl,hg2,hg2l⟩:=own_form hown3 (by simp);have hc3':Chg [gd] (wc.alloc (.cells (arrA h.dst) 24)) wf:=hc3;have hB9:=HBl.out.chg hc3' (by simp;exact fun e=>hgne e.symm))
   |(refine wpList_store_cell (v:=.slice (some ⟨g2,0,none⟩) (1+1) c3) rfl 27 (.tmp 62) (.tmp 61) rfl rfl hB9 rfl rfl rfl (by show _<6;omega) (by kernel_rfl) rfl ?_;intro wg hBg hcg)
   |fail)
  rw[sr_segs]at hBg;have hg2n:g2≠g12:=by
   have hb4:some g2=some gd∨some g2=some (wc.alloc (.cells (arrA h.dst) 24)).heap.size:=hb3;rcases hb4 with e|e
   ·simp at e;rw[e];exact hgne
   ·simp at e;omega
  have hOg:OwD wg wd.heap.size (.slice (some ⟨g2,0,none⟩) 2 c3) [a,h.dst]:=own_chg hown3 hcg (by simp[Value.ownBlock];exact hg2n);have hdg:Chg [gd,g12] (wc.alloc (.cells (arrA h.dst) 24)) wg:=(hc3'.more (by simp)).trans (hcg.more (by simp));have hHg:=HHe.out.chg hdg (by have:=HGD.out;simp;omega)
  have HCg:=zH ((HCe.out.trans HAl.out).trans' hdg (by intro x hx;have:=HGD.out;have:=HCd.out.size;simp at hx;right;omega));have y4:wg.cell? ⟨g12,4,none⟩=some (.slice (some ⟨g2,0,none⟩) 2 c3):=hBg.cell 4;have FR:=zH (rev2_any hOg)
  clear HOl HLit HBl HAl HHe HCe hown3 hc3 hc3' hb3 hB9 hcg hdg hOg x4 hz3 hHe hg12l hgne;go_wp2_with fail;refine FR.out.mono ?_;rintro e wh ⟨rfl,hOh,hch⟩;have hBh:=hBg.chg hch (by simp;exact fun e=>hg2n e.symm);have hHh:=hHg.chg hch (by have:=HGD.out;simp;omega)
  have HCh:=zH (HCg.out.trans' hch (by intro x hx;have:=HCd.out.size;simp at hx;subst hx;right;omega));clear FR hBg hHg HCg hch y4
  have HFS:=zH (sputS_any (n:=h.nxt) (m:=1) (L:=[h.dst,a]) ⟨k4,by simp,by simp,by intro z hz;simp at hz;rcases hz with rfl|rfl;exact hod;exact ha⟩ (Sl.less (B':=0) (Sl.of_own hOh) (Nat.zero_le _)));clear hOh;go_wp2_with (first
   |(refine zl rfl 30 (.tmp 10) rfl hBh rfl _ Tryz.underlying30 rfl infSr ?_)
   |fail)
  refine HFS.out.mono ?_;rintro e wj ⟨vj,rfl,hoj,hcj⟩;have hHj:=hHh.chg hcj (by simp);have HCj:=zH (HCh.out.trans hcj);obtain⟨Aj,cj,rfl⟩:=Sl.form (Sl.of_own hoj);have HL40:Hid ((srhB h.nxt 1 [h.dst,a]).length=40):=zH (by rw[srhB_len];rfl)
  have HSB:Hid (okB (srhB h.nxt 1 [h.dst,a])):=zH (srhB_ok (by intro z hz;simp at hz;rcases hz with rfl|rfl;exact hod;exact ha));rw[HL40.out];have HSj:Hid (SlY wj wh.heap.size (.slice Aj 40 cj) (srhB h.nxt 1 [h.dst,a])):=zH (by
   have h1:=Sl.of_own hoj;rw[HL40.out]at h1;unfold SlY;rw[HL40.out];exact h1)
  have hhg:=hHh.lt;have FM:=zH (fun W=>must_ok W);clear HFS hcj hoj hHh HCh hBh;go_wp2_with fail;refine (FM.out _).mono ?_;rintro e wk ⟨rfl,hwk⟩;rw[hwk]at HCj HSj hHj;clear hwk FM;have hw:IntKind.i64.wrap ((l.length:Int)+40)=(l.length:Int)+40:=by rw[IntKind.wrap_i64];omega
  by_cases hlong:1500<l.length+40
  ·have hX:=HX.out;rw[if_pos hlong]at hX;replace HX:=zH hX;have hI:decide ((l.length:Int)+40≤1500)=false:=decide_eq_false (by omega);have FS:=zH (fun W=>so_no 4 W);clear hX hlong HS HOK HSj HRV;go_wp2_with fail;refine (FS.out _).mono ?_;rintro e w4 ⟨rfl,hw4⟩;rw[hw4]at HCj
   exact⟨rfl,GivePost.err HX.out,HCj.out⟩
  have hX:=HX.out;rw[if_neg hlong]at hX;replace HX:=zH hX;have hI:(l.length:Int)+40≤1500:=by omega
  have FS:=zH (fun W=>so_ok 4 W);clear hX;go_wp2_with fail;refine (FS.out _).mono ?_;rintro e wl ⟨rfl,hwl⟩;rw[hwl]at HCj HSj hHj;clear hwl FS;go_upto_region 12 with fail
  have HWF:Hid (wfH {h with nxt:=43,dst:=a}):=zH ⟨wf64 (n:=h.cls) (by omega),wf64 (n:=h.lab) (by omega),wf64 (n:=h.len) (by omega),wf64 (n:=43) (by omega),wf64 (n:=h.hop) (by omega),hos,ha⟩
  have SR:Hid (∀W,Chg [g] wl W→W.rangeAt b o (arrA a).toList):=zH (fun W hc=>rangeAt_chg (HRV.out wl HCj.out) hc (by have:=HBW.out;have:=HG.out;simp;omega));have hD:Chg [g] wl wl.drew:=(Chg.refl _ wl).drew;have HBj:=zH (hHj.chg ((Chg.refl [] wl).drew) (by simp));clear hHj hw hlen
  refine wp_region_noPanic ?_;refine wp_region_held_drew (S:=fun W:World=>Chg [g] wl W) (by kernel_rfl) hD (fun _=>?_);refine zU 0 rfl (by go_simp<;>with_reducible rfl) ?_
  try simp only[zP]
  refine zU 1 rfl (by go_simp<;>with_reducible rfl) ?_
  try simp only[zP]
  refine zU 3 rfl (by go_simp<;>with_reducible rfl) ?_
  try simp only[zP]
  refine zT 2 rfl (yields_row (by rfl) 24 (.tmp 81) rfl b o rfl (arrA a) _ SR.out Tryz.underlying24 rfl infAd) ?_
  try simp only[zP]
  refine zR 4 rfl (fun K hK=>?_);refine step_store_cell (v:=.int .i64 43) rfl 3 (.tmp 83) _ rfl HBj.out rfl rfl rfl (by show _<37;omega) (by kernel_rfl) rfl ?_;intro wm hB4 hc4;have hC4:(fun W:World=>Chg [g] wl W) wm:=hD.trans hc4;rw[h_nxt]at hB4;clear hc4;refine zB hK ?_;clear hK K
  try simp only[zP]
  refine zU 5 rfl (by go_simp<;>with_reducible rfl) ?_
  try simp only[zP]
  refine zR 6 rfl (fun K hK=>?_);refine step_store_part (vs:=arrA a) rfl 24 (.tmp 84) (.tmp 82) rfl hB4 21 rfl rfl (by show 21+16≤37;omega) infAd rfl (h_dst _ a) ?_;intro wn hB5 hc5;have hC5:(fun W:World=>Chg [g] wl W) wn:=Chg.trans hC4 hc5;clear hc5;refine zB hK ?_;clear hK K
  try simp only[zP]
  refine wpAnyH_done (by kernel_rfl) ?_ _;refine NoPanic.normal ?_;have hBm:Blk wn g 26 (arrH {h with nxt:=43,dst:=a}):=hB5;have HCm:=zH (HCj.out.trans' hC5 (by intro x hx;simp at hx;subst hx;right;exact HG.out));have HSm:=Sl.less (B':=0) (Sl.chg HSj.out hC5 (by simp;exact hhg)) (Nat.zero_le _)
  have hDm:Chg [] wn wn.drew:=(Chg.refl _ wn).drew;obtain⟨X,hXr,hXs⟩:=cutYf (HS.out wn HCm.out) (lo:=40) (by omega);have hXr':∀W:World,(Instr.slice 22 (.slice A l.length c) (some (.int .i64 40)) none none).run Tryz.prog W=.ok (.slice X (l.length-40) (c-40)) W:=hXr
  have R0:=zH (fun W (hc:Chg [] wn W)=>(hBm.chg hc (by simp)).rangeQ);have HL:=zH (SlL.lit2 (T:=22) (W:=wn.drew) (Sl.chg0 HSm hDm) HSB.out (by rw[HL40.out];omega) (Sl.less (Sl.chg0 hXs hDm) (Nat.zero_le _)) (HOK.out.drop 40) (by rw[List.length_drop];omega))
  have hfl:[srhB h.nxt 1 [h.dst,a],l.drop 40].flatten=srhB h.nxt 1 [h.dst,a]++l.drop 40:=by simp
  have FJ:=zH (joined_any HWF.out HL.out (by simp) (by rw[hfl,List.length_append,HL40.out,List.length_drop];omega));rw[hfl]at FJ;clear hXs hBm hB4 hB5 hC4 hC5 hD HBj SR HRV HS hXr HWF HSj HSm hfl HL;go_upto_region 13 with fail
  refine wp_region_noPanic ?_;refine wp_region_held_drew (S:=fun W:World=>Chg [] wn W) (by kernel_rfl) hDm (fun _=>?_);refine zT 0 rfl (yields_row (by rfl) 26 (.tmp 7) rfl g 0 rfl (arrH {h with nxt:=43,dst:=a}) _ R0.out Tryz.underlying26 rfl infH) ?_
  try simp only[zP]
  refine zU 1 rfl (by go_simp<;>with_reducible rfl) ?_
  try simp only[zP]
  refine zU 2 rfl (by go_simp<;>with_reducible rfl) ?_
  try simp only[zP]
  refine zU 3 rfl (by go_simp<;>with_reducible rfl) ?_
  try simp only[zP]
  refine zR 4 rfl (fun K hK=>?_);refine step_run (v:=.slice (some ⟨wn.heap.size,0,none⟩) 2 2) (w':=wn.drew.alloc (.cells #[.slice Aj 40 cj,.slice X (l.length-40) (c-40)] 22)) rfl (by go_simp<;>rfl) ?_
  have hC8:(fun W:World=>Chg [] wn W) (wn.drew.alloc (.cells #[.slice Aj 40 cj,.slice X (l.length-40) (c-40)] 22)):=hDm.alloc _;refine zB hK ?_;clear hK K
  try simp only[zP]
  refine zR 5 rfl (fun K hK=>?_);go_simp
  refine FJ.out.mono ?_;rintro e wo ⟨v9,rfl,ho9,hc9⟩;have hC9:(fun W:World=>Chg [] wn W) wo:=Chg.trans hC8 hc9;have HO9:=zH (ownsRow_less (B':=w.heap.size) ho9 (by have:=HCm.out.size;simp;omega));have HC9:=zH (HCm.out.trans hC9);clear hc9 ho9;refine zB hK ?_;clear hK K
  try simp only[zP]
  refine zU 6 rfl (by go_simp<;>with_reducible rfl) ?_
  try simp only[zP]
  refine wpAnyH_done (by kernel_rfl) ?_ _;refine NoPanic.normal ?_;clear hC8 hC9 hDm FJ R0;go_wp2_with fail;go_ret
  exact⟨GivePost.ok HX.out HO9.out,HC9.out⟩
end Go.Proofs.YtgbndaiifbogmaaGreat
namespace Go.Proofs.YtgbndaiifbogmaaGreat
open Go.RowKit Go.Maps
theorem insS_err {b:By} {a:Ad} {n:Int} (k:insS b [a]=.error n):n≠0:=by
 rw[insS_one]at k;split at k
 ·rename_i e he;injection k with k;subst k;exact headS_err he
 ·split at k
  ·injection k with k;omega
  ·split at k
   ·injection k with k;omega
   ·split at k
    ·injection k with k;omega
    ·cases k
theorem dinsert_any {w:World} {v sv:Value} {l:By} {a:Ad} (h:SlY w 0 v l) (hb:okB l) (hl:l.length≤1000000) (ha:okA a) (hs:SlD w 0 sv [a]) :
  Calls Tryz.prog 272 #[v,sv,.slice none 0 0] w fun e w'=>DonePost (insS l [a]) w.heap.size e w'∧Chg [] w w':=by
 have hmf:∀(fn:Fn) (first cap:Array Value) (w:World),(Instr.makeFunc fn first cap).run Tryz.prog w=.ok (.func fn first cap) w:=fun _ _ _ _=>rfl
 have hA:=((Chg.refl [] w).alloc (.cells #[.slice none 0 0] 22)).alloc (.cells #[.int .i64 0] 39);have hBo:Blk ((w.alloc (.cells #[.slice none 0 0] 22)).alloc (.cells #[.int .i64 0] 39)) w.heap.size 22 #[.slice none 0 0]:=(Blk.new _ _ _).alloc _
 have hBe:Blk ((w.alloc (.cells #[.slice none 0 0] 22)).alloc (.cells #[.int .i64 0] 39)) (w.heap.size+1) 39 #[.int .i64 0]:=Blk.new' (by simp);obtain⟨A,c,rfl⟩:=h.form;obtain⟨A2,c2,rfl⟩:=Sl.form hs;have hs':SlD w 0 (.slice A2 ([a]:List Ad).length c2) [a]:=hs
 have FA:=zH (insert_any (h.chg0 hA) hb hl ha (Sl.chg0 hs' hA));have HE:=zH (fun n (k:insS l [a]=.error n)=>insS_err k);have HA:=zH hA;generalize insS l [a]=x at *;clear hA h hb hs hs';go_enter_defers Tryz.func272,Tryz.ntmps272
 go_wp2_with fail;refine FA.out.mono ?_;rintro e w1 ⟨hp,hc1⟩;have hBo1:=hBo.chg hc1 (by simp);have hBe1:=hBe.chg hc1 (by simp);have HC1:=zH (HA.out.trans hc1);have hne:w.heap.size+1≠w.heap.size:=by omega
 clear FA hBo hBe HA;cases x with
 |error n=>
  obtain rfl:e=_:=hp;have hn:=HE.out n rfl;refine leaves_cons (f:=301) (args:=#[.pointer (some ⟨w.heap.size+1,0,none⟩),.pointer (some ⟨w.heap.size,0,none⟩)]) (by simp) (by simp[go_sem]) ?_
  refine (catchI_some (x:=.nilIface) hn hne [] (hBe1.cell 0) (hBe1.frozen 0) (hBo1.cell 0) (hBo1.frozen 0)).mono ?_;rintro e u' w2 ⟨rfl,rfl,rfl⟩
  have hb2:Blk (((w1.setCell ⟨w.heap.size+1,0,none⟩ (.int .i64 n)).setCell ⟨w.heap.size,0,none⟩ (.slice none 0 0)).drew) (w.heap.size+1) 39 #[.int .i64 n]:=((hBe1.set_ 0 (.int .i64 n)).far (by simp) _).drew
  have hb3:Blk (((w1.setCell ⟨w.heap.size+1,0,none⟩ (.int .i64 n)).setCell ⟨w.heap.size,0,none⟩ (.slice none 0 0)).drew) w.heap.size 22 #[.slice none 0 0]:=((hBo1.far (by simp) _).set_ 0 (.slice none 0 0)).drew;have k0:=hb2.cell 0;have k1:=hb3.cell 0
  have hcc:=HC1.out.setCell (p:=⟨w.heap.size+1,0,none⟩) (.inr (by simp)) (.int .i64 n);have hcd:=(hcc.setCell (p:=⟨w.heap.size,0,none⟩) (.inr (by simp)) (.slice none 0 0)).drew;simp only[List.getElem?_toArray,List.getElem?_cons_zero]at k0 k1;simp[Leaves,settle,results,Tryz.results272,go_sem,k0,k1]
  exact⟨rfl,hcd⟩
 |ok y=>
  obtain⟨v,rfl,ho⟩:=hp;have k0:=hBo1.cell 0;have k1:=hBe1.cell 0;have f0:=hBo1.frozen 0;have f1:=hBe1.frozen 0;simp only[List.getElem?_toArray,List.getElem?_cons_zero]at k0 k1
  have hb2:Blk ((w1.setCell ⟨w.heap.size,0,none⟩ v).setCell ⟨w.heap.size+1,0,none⟩ (.int .i64 0)) w.heap.size 22 #[v]:=(hBo1.set_ 0 v).far (by simp) _
  have hb3:Blk ((w1.setCell ⟨w.heap.size,0,none⟩ v).setCell ⟨w.heap.size+1,0,none⟩ (.int .i64 0)) (w.heap.size+1) 39 #[.int .i64 0]:=(hBe1.far (by simp) _).set_ 0 (.int .i64 0)
  have hc2:Chg [w.heap.size,w.heap.size+1] w1 ((w1.setCell ⟨w.heap.size,0,none⟩ v).setCell ⟨w.heap.size+1,0,none⟩ (.int .i64 0)):=((Chg.refl _ w1).setCell (p:=⟨w.heap.size,0,none⟩) (.inl (by simp)) v).setCell (p:=⟨w.heap.size+1,0,none⟩) (.inl (by simp)) _
  have HO:=zH (own_chg ho hc2 (fun x hx hm=>by have:=(own_lt ho x hx).1;simp at hm this;omega));have HC2:=zH (HC1.out.trans' hc2 (by intro x hx;simp at hx;right;omega));have HB:=zH (And.intro hb2 hb3);obtain⟨A1,c1,rfl⟩:=(OwY.sl ho).form;clear hBo1 hBe1 HC1 hc2 ho hb2 hb3;go_wp2_with fail
  obtain⟨hb2,hb3⟩:=HB.out;refine leaves_cons (f:=301) (args:=#[.pointer (some ⟨w.heap.size+1,0,none⟩),.pointer (some ⟨w.heap.size,0,none⟩)]) (by simp) (by simp[go_sem]) ?_;refine (catchI_idle (hb3.cell 0) (hb3.frozen 0)).mono ?_;rintro e u' w2 ⟨rfl,rfl,rfl⟩
  have hb4:=(hb2.far (p:=⟨w.heap.size+1,0,none⟩) (by simp) (.int .i64 0)).drew;have hb5:=(hb3.set_ 0 (.int .i64 0)).drew;have k2:=hb4.cell 0;have k3:=hb5.cell 0
  have hc3:Chg [w.heap.size+1] _ _:=((Chg.refl [w.heap.size+1] ((w1.setCell ⟨w.heap.size,0,none⟩ (.slice A1 y.length c1)).setCell ⟨w.heap.size+1,0,none⟩ (.int .i64 0))).setCell (p:=⟨w.heap.size+1,0,none⟩) (.inl (by simp)) (.int .i64 0)).drew
  have hO2:=own_chg HO.out hc3 (fun x hx hm=>by have:=(own_lt HO.out x hx).1;simp at hm this;omega);have hC3:=HC2.out.trans' hc3 (by intro x hx;simp at hx;right;omega);simp only[List.getElem?_toArray,List.getElem?_cons_zero]at k2 k3;simp[Leaves,settle,results,Tryz.results272,go_sem,k2,k3]
  exact⟨⟨_,rfl,ownsRow_less hO2 (by simp;omega)⟩,hC3⟩
theorem is_node {n:Int} (h:1≤n∧n≤65535) (w:World):Calls Tryz.prog 303 #[.int .i64 n] w fun e w'=>e=.returned (.bool true)∧w=w':=by
 have h1:n≥1:=h.1;have h2:n≤65535:=h.2;go_enter Tryz.func303,Tryz.ntmps303
 go_wp2_with fail;go_ret
 exact⟨rfl,rfl⟩
@[reducible] def arrLi (r:Int) (v:Value):Array Value:=#[.int .u32 r,v]
theorem add_node {n d r:Int} (h1:0≤n∧n≤65535) (h2:0≤d∧d≤255) (h3:0≤r∧r≤4294967295) {w:World} {g:Nat} (hb:Blk w g 380 (arrLi r (.slice none 0 0))) :
  Calls Tryz.prog 304 #[.pointer (some ⟨g,0,none⟩),.int .i64 n,.int .i64 d] w fun e w'=>e=.returned (.tuple #[])∧(∃v,Blk w' g 380 (arrLi r v)∧OwD w' w.heap.size v [sidA n d r])∧Chg [g] w w':=by
 have c0:w.cell? ⟨g,0,none⟩=some (.int .u32 r):=hb.cell 0;have FM:=zH (smake_any h1 h2 h3 w);generalize sidA n d r=a at *;have hgl:=hb.lt;clear h1 h2 h3;go_enter Tryz.func304,Tryz.ntmps304
 go_wp2_with fail;refine FM.out.mono ?_;rintro e w1 ⟨rfl,hc1⟩;have hb1:=(hb.chg hc1 (by simp)).alloc (.cells (arrA ad0) 24);have hA1:Blk (w1.alloc (.cells (arrA ad0) 24)) w1.heap.size 24 (arrA ad0):=Blk.new _ _ _;have HC1:=zH (hc1.alloc (.cells (arrA ad0) 24));have hz1:=hc1.size;clear hb c0 FM hc1
 go_upto_region 2 with (first
  |(refine zs (vs:=arrA a) rfl 24 (.tmp 6) (.tmp 17) rfl rfl hA1 rfl rfl rfl infAd rfl ?_;intro w2 hB2 hc2)
  |fail)
 have hb2:=hb1.chg hc2 (by simp;omega);have HC2:=zH (HC1.out.trans' hc2 (zN (by omega)));obtain⟨g6,hg6⟩:∃x,x=w1.heap.size:=⟨_,rfl⟩;rw[←hg6]at hB2 ⊢;have hne:g≠g6:=by omega
 clear hA1 hc2 HC1 hb1 hg6;have HB2:=zH hb2;have hD:Chg [] w2 w2.drew:=(Chg.refl _ w2).drew;have hD':(fun W:World=>Chg [g] w2 W) w2.drew:=hD.more (by simp);have SA:Hid (∀W,Chg [g] w2 W→W.rangeAt g6 0 (arrA a).toList):=zH (fun W hc=>(hB2.chg hc (by simp;exact fun e=>hne e.symm)).rangeQ)
 have j1:w2.drew.cell? ⟨g,1,none⟩=some (.slice none 0 0):=(hb2.chg hD (by simp)).cell 1;have j2:(w2.alloc (.cells (arrA a) 24)).cell? ⟨g,1,none⟩=some (.slice none 0 0):=(hb2.alloc _).cell 1;have hSa:Chg [] w2 (w2.drew.alloc (.cells (arrA a) 24)):=hD.alloc _
 have hSa':(fun W:World=>Chg [g] w2 W) (w2.drew.alloc (.cells (arrA a) 24)):=hSa.more (by simp);have hO0:OwD (w2.drew.alloc (.cells (arrA a) 24)) w2.heap.size (.slice none 0 0) []:=World.ownsRow_nil ..;refine wp_region_noPanic ?_
 refine wp_region_held_drew (S:=fun W:World=>Chg [g] w2 W) (by kernel_rfl) hD' (fun _=>?_);refine zU 0 rfl (by go_simp<;>with_reducible rfl) ?_
 try simp only[zP]
 refine zU 1 rfl (by go_simp<;>with_reducible rfl) ?_
 try simp only[zP]
 refine zU 2 rfl (by go_simp<;>with_reducible rfl) ?_
 try simp only[zP]
 refine zU 3 rfl (by go_simp<;>with_reducible rfl) ?_
 try simp only[zP]
 refine zT 5 rfl (yields_row (by rfl) 24 (.tmp 6) rfl g6 0 rfl (arrA a) _ SA.out Tryz.underlying24 rfl infAd) ?_
 try simp only[zP]
 refine wpAnyH_ready (rs:=[4,6]) (by kernel_rfl) (by simp) (AllReadyH.cons rfl (fun K hK=>?_) (AllReadyH.cons rfl (fun K hK=>?_) AllReadyH.nil))
 ·refine step_run (v:=.slice none 0 0) (w':=w2.drew) rfl (by go_simp) ?_;refine zB hK ?_;clear hK K
  try simp only[zP]
  refine zR 6 rfl (fun K hK=>?_);refine step_run (v:=.slice (some ⟨w2.drew.heap.size,0,none⟩) 1 1) (w':=w2.drew.alloc (.cells (arrA a) 24)) rfl (by go_simp<;>rfl) ?_;refine zB hK ?_;clear hK K
  try simp only[zP]
  refine zR 7 rfl (fun K hK=>?_);refine step_app elD rfl (.tmp 25) (.tmp 27) rfl w2.heap.size rfl hO0 rfl (litD w2.drew a) (encA_one _) (by simp[maxLen]) (by simp) hSa.size ?_;intro v3 wf hown3 hc3 hb3;have hc3':Chg [] (w2.drew.alloc (.cells (arrA a) 24)) wf:=hc3
  have hS3:(fun W:World=>Chg [g] w2 W) wf:=(hSa.trans hc3').more (by simp);have hB3:=(HB2.out.chg hSa (by simp)).chg hc3' (by simp);have hO3:OwD wf w2.heap.size v3 [a]:=hown3;have hv3:=Sl.one (Sl.of_own hown3);obtain⟨g7,c7,rfl,hg7,hg7l⟩:=own_form hown3 (by simp);refine zB hK ?_;clear hK K
  try simp only[zP]
  refine zU 8 rfl (by go_simp<;>with_reducible rfl) ?_
  try simp only[zP]
  refine zU 9 rfl (by go_simp<;>with_reducible rfl) ?_
  try simp only[zP]
  refine zR 10 rfl (fun K hK=>?_);refine step_store_cell (v:=.slice (some ⟨g7,0,none⟩) (0+1) c7) rfl 27 (.tmp 30) (.tmp 28) rfl hB3 rfl rfl rfl (by show _<2;omega) (by kernel_rfl) rfl ?_;intro wg hB4 hc4;have hS4:(fun W:World=>Chg [g] w2 W) wg:=Chg.trans hS3 hc4;refine zB hK ?_;clear hK K
  try simp only[zP]
  refine wpAnyH_done (by kernel_rfl) ?_ _;refine NoPanic.normal ?_;have hgw:g<w2.heap.size:=HB2.out.lt;have HF:Hid (Blk wg g 380 (arrLi r (.slice (some ⟨g7,0,none⟩) (0+1) c7))∧OwD wg w.heap.size (.slice (some ⟨g7,0,none⟩) (0+1) c7) [a]):=zH ⟨hB4,ownsRow_less (own_chg hO3 hc4 (fun y hy hm=>by
   have e1:=(own_lt hO3 y hy).1;have e2:=List.mem_singleton.1 hm;omega)) (by have:=HC2.out.size;omega)⟩
  have HC:=zH ((HC2.out.more (T:=[g]) (by simp)).trans hS4);clear hc3 hc3' hS3 hB3 hO3 hv3 hown3 hb3 hB4 hc4 hS4 hSa hSa' j1 j2 hD hD' SA hO0;go_wp2_with fail;go_end0
  exact⟨rfl,⟨_,HF.out.1,HF.out.2⟩,HC.out⟩
 ·refine step_run (v:=.slice (some ⟨w2.drew.heap.size,0,none⟩) 1 1) (w':=w2.drew.alloc (.cells (arrA a) 24)) rfl (by go_simp<;>rfl) ?_;refine zB hK ?_;clear hK K
  try simp only[zP]
  refine zR 4 rfl (fun K hK=>?_);refine step_run (v:=.slice none 0 0) (w':=w2.drew.alloc (.cells (arrA a) 24)) rfl (by go_simp) ?_;refine zB hK ?_;clear hK K
  try simp only[zP]
  refine zR 7 rfl (fun K hK=>?_);refine step_app elD rfl (.tmp 25) (.tmp 27) rfl w2.heap.size rfl hO0 rfl (litD w2.drew a) (encA_one _) (by simp[maxLen]) (by simp) hSa.size ?_;intro v3 wf hown3 hc3 hb3;have hc3':Chg [] (w2.drew.alloc (.cells (arrA a) 24)) wf:=hc3
  have hS3:(fun W:World=>Chg [g] w2 W) wf:=(hSa.trans hc3').more (by simp);have hB3:=(HB2.out.chg hSa (by simp)).chg hc3' (by simp);have hO3:OwD wf w2.heap.size v3 [a]:=hown3;have hv3:=Sl.one (Sl.of_own hown3);obtain⟨g7,c7,rfl,hg7,hg7l⟩:=own_form hown3 (by simp);refine zB hK ?_;clear hK K
  try simp only[zP]
  refine zU 8 rfl (by go_simp<;>with_reducible rfl) ?_
  try simp only[zP]
  refine zU 9 rfl (by go_simp<;>with_reducible rfl) ?_
  try simp only[zP]
  refine zR 10 rfl (fun K hK=>?_);refine step_store_cell (v:=.slice (some ⟨g7,0,none⟩) (0+1) c7) rfl 27 (.tmp 30) (.tmp 28) rfl hB3 rfl rfl rfl (by show _<2;omega) (by kernel_rfl) rfl ?_;intro wg hB4 hc4;have hS4:(fun W:World=>Chg [g] w2 W) wg:=Chg.trans hS3 hc4;refine zB hK ?_;clear hK K
  try simp only[zP]
  refine wpAnyH_done (by kernel_rfl) ?_ _;refine NoPanic.normal ?_;have hgw:g<w2.heap.size:=HB2.out.lt;have HF:Hid (Blk wg g 380 (arrLi r (.slice (some ⟨g7,0,none⟩) (0+1) c7))∧OwD wg w.heap.size (.slice (some ⟨g7,0,none⟩) (0+1) c7) [a]):=zH ⟨hB4,ownsRow_less (own_chg hO3 hc4 (fun y hy hm=>by
   have e1:=(own_lt hO3 y hy).1;have e2:=List.mem_singleton.1 hm;omega)) (by have:=HC2.out.size;omega)⟩
  have HC:=zH ((HC2.out.more (T:=[g]) (by simp)).trans hS4);clear hc3 hc3' hS3 hB3 hO3 hv3 hown3 hb3 hB4 hc4 hS4 hSa hSa' j1 j2 hD hD' SA hO0;go_wp2_with fail;go_end0
  exact⟨rfl,⟨_,HF.out.1,HF.out.2⟩,HC.out⟩
theorem signal_any {n:Int} (h:1≤n∧n≤65535) (w:World):Calls Tryz.prog 273 #[.int .i64 n] w fun e w'=>e=.returned (.agg (arrA (sidA 0 6 n)))∧Chg [] w w':=by
 have hA:=((Chg.refl [] w).alloc (.cells (arrA ad0) 24)).alloc (.cells (arrLi n (.slice none 0 0)) 380);have hZ:Blk ((w.alloc (.cells (arrA ad0) 24)).alloc (.cells (arrLi n (.slice none 0 0)) 380)) w.heap.size 24 (arrA ad0):=(Blk.new _ _ _).alloc _
 have hL:Blk ((w.alloc (.cells (arrA ad0) 24)).alloc (.cells (arrLi n (.slice none 0 0)) 380)) (w.heap.size+1) 380 (arrLi n (.slice none 0 0)):=Blk.new' (by simp);have FI:=zH (is_node h);have hwn:IntKind.u32.wrap n=n:=by rw[IntKind.wrap_u32'];omega
 have FA:=zH (add_node (n:=0) (d:=6) (r:=n) (by omega) (by omega) (by omega) hL);have HA:=zH hA;generalize sidA 0 6 n=a at *;clear hA h;go_enter Tryz.func273,Tryz.ntmps273
 go_wp2_with fail;refine (FI.out _).mono ?_;rintro e w1 ⟨rfl,hw1⟩;subst hw1;go_wp2_with fail;refine FA.out.mono ?_;rintro e w2 ⟨rfl,⟨v,hB2,hO2⟩,hc2⟩;obtain⟨g7,c7,rfl,hg7,hg7l⟩:=own_form hO2 (by simp);obtain⟨_,b',o',e2,hr⟩:=SlD.rec (OwD.sl hO2) (i:=0) (x:=a) rfl
 simp only[Option.some.injEq,Addr.mk.injEq,and_true]at e2;obtain⟨rfl,rfl⟩:=e2;have hrow:w2.rangeAt g7 0 (arrA a).toList:=by simpa using hr
 have c1:w2.cell? ⟨w.heap.size+1,1,none⟩=some (.slice (some ⟨g7,0,none⟩) 1 c7):=hB2.cell 1;have hZ2:=hZ.chg hc2 (by simp);have HC:=zH (HA.out.trans' hc2 (zN (by omega)));clear FA FI hB2 hO2 hr hL hZ hc2 hg7 hg7l;go_wp2_with (first
  |(refine wpList_load_mid rfl 24 (.tmp 18) rfl g7 0 rfl (arrA a).toList _ hrow Tryz.underlying24 rfl infAd ?_)
  |(refine zs (vs:=arrA a) rfl 24 (.tmp 2) (.tmp 19) rfl rfl hZ2 rfl rfl rfl infAd rfl ?_;intro w9 hB9 hc9)
  |fail)
 refine bodyPost_ret (results_blk rfl rfl hB9 _ Tryz.underlying24 rfl infAd) rfl ?_;exact⟨rfl,HC.out.trans' hc9 (zN (by omega))⟩
end Go.Proofs.YtgbndaiifbogmaaGreat
namespace Go.Proofs.YtgbndaiifbogmaaGreat
open Go.RowKit Go.Maps
theorem elS:El Tryz.prog 66 22 (.slice none 0 0) 1 24:=⟨Tryz.underlying66,by kernel_rfl,rfl,by omega⟩
theorem own_cell0 {w:World} {B g c:Nat} {e:TypeId} {x:Value} (h:w.ownsRow B e 1 (.slice (some ⟨g,0,none⟩) 1 c) 1 [x]):w.cell? ⟨g,0,none⟩=some x:=by
 obtain⟨hl,h2⟩:=h;rcases h2 with ⟨h0,_⟩ | ⟨g',cap',cur,hv,hg,hh,hn,hcap,hsz,htake⟩
 ·cases h0
 ·cases hv;have hB:Blk w g e cur:=hh;rw[hB.cell];have:=congrArg (fun l=>l[0]?) htake;simpa using this
theorem tc_sp (t:Sg) (o p:Value) (x:Int):(arrTc t o p).setIfInBounds 0 (.int .i64 x)=arrTc {t with sport:=x} o p:=by kernel_rfl
theorem tc_dp (t:Sg) (o p:Value) (x:Int):(arrTc t o p).setIfInBounds 1 (.int .i64 x)=arrTc {t with dport:=x} o p:=by kernel_rfl
theorem tell_one {w:World} {gj gl:Nat} {J:Jm} {node load:Int} {tb gp gt:Nat} {t:Sg} {y1 y2:By} (hj:Blk w gj 154 (arrJ J)) (hg:Blk w J.ga 113 (arrAg node load tb gp gt)) (hn:1≤node∧node≤65535)
  (hs:okA J.f.src) (hd:okA J.f.dst) (hl:Blk w gl 34 (arrTc t noV noV)) (hnum:numsT {t with sport:=J.f.dport,dport:=J.f.sport} = true) (hw:okW t)
  (e1:tcpP J.f.dst J.f.src {t with sport:=J.f.dport,dport:=J.f.sport} []=.ok y1) (hb1:okB y1) (hy1:y1.length≤1000000) (e2:insS y1 [sidA 0 6 node]=.ok y2) :
  Calls Tryz.prog 227 #[.pointer (some ⟨gj,0,none⟩),.bool true,.slice (some ⟨gl,0,none⟩) 1 1] w fun e w'=>(∃go c vb,e=.returned (.slice (some ⟨go,0,none⟩) 1 c)∧w'.cell? ⟨go,0,none⟩=some vb∧OwY w' w.heap.size vb y2∧w.heap.size≤go)∧Chg [] w w':=by
 have hrow:w.rangeAt gl 0 (arrTc t noV noV).toList:=hl.rangeQ;have hB9:Blk (w.alloc (.cells (arrTc tc0 noV noV) 34)) w.heap.size 34 (arrTc tc0 noV noV):=Blk.new _ _ _;have hA:=(Chg.refl [] w).alloc (.cells (arrTc tc0 noV noV) 34);have hjl:=hj.lt;have hgl:=hg.lt;have HJ:=zH (hj.chg hA (by simp))
 have HG:=zH (hg.chg hA (by simp));have HA:=zH hA;have FT:=zH (fun U=>ptcp_any hd hs (t:={t with sport:=J.f.dport,dport:=J.f.sport}) hnum ⟨hw.seq,hw.ack⟩ (w:=U) (SlY.nil U 0) (by intro x hx;simp at hx) (by simp));rw[e1]at FT;have FS:=zH (fun U=>signal_any hn U)
 have FI:=zH (fun U v sv (h:SlY U 0 v y1) (h2:SlD U 0 sv [sidA 0 6 node])=>dinsert_any h hb1 hy1 (sidA_ok 0 6 node) h2);rw[e2]at FI;generalize sidA 0 6 node=sa at *;clear hj hg hl hnum hw e1 hb1 hy1 e2 hs hd hn hA;go_enter Tryz.func227,Tryz.ntmps227
 go_wp2_with fail;refine wp_loop_rounds 2 ?_;rw[rounds_succ];go_upto_region 5 with (first
  |(refine wpList_load_mid rfl 34 (.tmp 16) rfl gl 0 rfl (arrTc t noV noV).toList _ hrow Tryz.underlying34 rfl infTc ?_)
  |(refine zs (vs:=arrTc t noV noV) rfl 34 (.tmp 9) (.tmp 17) rfl rfl hB9 rfl rfl rfl infTc rfl ?_;intro w1 hB1 hc1)
  |fail)
 have hJ1:=HJ.out.chg hc1 (by simp;omega);have hG1:=HG.out.chg hc1 (by simp;omega);have HC1:=zH (HA.out.trans' hc1 (zN (by omega)));obtain⟨g9,hg9⟩:∃g,g=w.heap.size:=⟨_,rfl⟩;rw[←hg9]at hB1 hjl hgl ⊢;have HG9:=zH hg9;clear hg9;have HJ1:=zH hJ1;have HG1:=zH hG1
 have SP:Hid (∀U,Chg [g9] w1 U→U.cell? ⟨gj,114,none⟩=some (.int .i64 J.f.dport)):=zH (fun U hc=>(HJ1.out.chg hc (by simp;omega)).at_ (j_dport J));have SQ:Hid (∀U,Chg [g9] w1 U→U.cell? ⟨gj,97,none⟩=some (.int .i64 J.f.sport)):=zH (fun U hc=>(HJ1.out.chg hc (by simp;omega)).at_ (j_sport J))
 have hD:(fun U:World=>Chg [g9] w1 U) w1.drew:=(Chg.refl _ w1).drew;have hBd:=hB1.drew;clear hc1 hB9 HJ HG HA hJ1 hG1 hrow hB1;refine wp_region_noPanic ?_;refine wp_region_held_drew (S:=fun U:World=>Chg [g9] w1 U) (by kernel_rfl) hD (fun _=>?_);refine zU 0 rfl (by go_simp<;>with_reducible rfl) ?_
 try simp only[zP]
 refine zU 1 rfl (by go_simp<;>with_reducible rfl) ?_
 try simp only[zP]
 refine zU 2 rfl (by go_simp<;>with_reducible rfl) ?_
 try simp only[zP]
 refine zU 3 rfl (by go_simp<;>with_reducible rfl) ?_
 try simp only[zP]
 refine zT 4 rfl (zc (by rfl) 3 (.tmp 21) rfl gj 114 rfl (.int .i64 J.f.dport) _ SP.out Tryz.underlying3 rfl) ?_
 try simp only[zP]
 refine zU 5 rfl (by go_simp<;>with_reducible rfl) ?_
 try simp only[zP]
 refine zU 6 rfl (by go_simp<;>with_reducible rfl) ?_
 try simp only[zP]
 refine zU 7 rfl (by go_simp<;>with_reducible rfl) ?_
 try simp only[zP]
 refine zU 8 rfl (by go_simp<;>with_reducible rfl) ?_
 try simp only[zP]
 refine zU 10 rfl (by go_simp<;>with_reducible rfl) ?_
 try simp only[zP]
 refine zT 9 rfl (zc (by rfl) 3 (.tmp 26) rfl gj 97 rfl (.int .i64 J.f.sport) _ SQ.out Tryz.underlying3 rfl) ?_
 try simp only[zP]
 refine zR 11 rfl (fun K hK=>?_);refine step_store_cell (i:=0) (v:=.int .i64 J.f.dport) rfl 3 (.tmp 28) (.tmp 22) rfl hBd rfl rfl rfl (by show _<10;omega) (by kernel_rfl) rfl ?_;intro w2 hB2 hc2;rw[tc_sp]at hB2;have hD2:(fun U:World=>Chg [g9] w1 U) w2:=Chg.trans hD hc2;refine zB hK ?_;clear hK K
 try simp only[zP]
 refine zU 12 rfl (by go_simp<;>with_reducible rfl) ?_
 try simp only[zP]
 refine zR 13 rfl (fun K hK=>?_);refine step_store_cell (i:=1) (v:=.int .i64 J.f.sport) rfl 3 (.tmp 29) (.tmp 27) rfl hB2 rfl rfl rfl (by show _<10;omega) (by kernel_rfl) rfl ?_;intro w3 hB3 hc3;rw[tc_dp]at hB3;have hD3:(fun U:World=>Chg [g9] w1 U) w3:=Chg.trans hD2 hc3;refine zB hK ?_;clear hK K
 try simp only[zP]
 refine wpAnyH_done (by kernel_rfl) ?_ _;refine NoPanic.normal ?_;have HJ3:=zH (HJ1.out.chg hD3 (by simp;omega));have HG3:=zH (HG1.out.chg hD3 (by simp;omega));have HC3:=zH (HC1.out.trans' hD3 (by intro x hx;simp at hx;subst hx;right;have:=HG9.out;omega));have HB3:=zH hB3
 have SD:Hid (∀U,Chg [] w3 U→U.rangeAt gj 98 (arrA J.f.dst).toList):=zH (fun U hc=>(HJ3.out.chg hc (by simp)).part _ (jp_dst J));have SS:Hid (∀U,Chg [] w3 U→U.rangeAt gj 81 (arrA J.f.src).toList):=zH (fun U hc=>(HJ3.out.chg hc (by simp)).part _ (jp_src J))
 have ST:Hid (∀U,Chg [] w3 U→U.rangeAt g9 0 (arrTc {t with sport:=J.f.dport,dport:=J.f.sport} noV noV).toList):=zH (fun U hc=>(HB3.out.chg hc (by simp)).rangeQ);clear hD hD2 hD3 hc2 hc3 hB2 hB3 SP SQ HJ1 HG1 HC1 hBd;go_upto_region 6 with fail
 have hD:(fun U:World=>Chg [] w3 U) w3.drew:=(Chg.refl _ w3).drew;refine wp_region_noPanic ?_;refine wp_region_held_drew (S:=fun U:World=>Chg [] w3 U) (by kernel_rfl) hD (fun _=>?_);refine zU 0 rfl (by go_simp<;>with_reducible rfl) ?_
 try simp only[zP]
 refine zU 1 rfl (by go_simp<;>with_reducible rfl) ?_
 try simp only[zP]
 refine zU 2 rfl (by go_simp<;>with_reducible rfl) ?_
 try simp only[zP]
 refine zU 3 rfl (by go_simp<;>with_reducible rfl) ?_
 try simp only[zP]
 refine zT 4 rfl (yields_row (by rfl) 24 (.tmp 34) rfl gj 98 rfl (arrA J.f.dst) _ SD.out Tryz.underlying24 rfl infAd) ?_
 try simp only[zP]
 refine zU 5 rfl (by go_simp<;>with_reducible rfl) ?_
 try simp only[zP]
 refine zU 6 rfl (by go_simp<;>with_reducible rfl) ?_
 try simp only[zP]
 refine zU 7 rfl (by go_simp<;>with_reducible rfl) ?_
 try simp only[zP]
 refine zU 8 rfl (by go_simp<;>with_reducible rfl) ?_
 try simp only[zP]
 refine zT 9 rfl (yields_row (by rfl) 24 (.tmp 39) rfl gj 81 rfl (arrA J.f.src) _ SS.out Tryz.underlying24 rfl infAd) ?_
 try simp only[zP]
 refine zT 10 rfl (yields_row (by rfl) 34 (.tmp 9) rfl g9 0 rfl (arrTc {t with sport:=J.f.dport,dport:=J.f.sport} noV noV) _ ST.out Tryz.underlying34 rfl infTc) ?_
 try simp only[zP]
 refine zR 11 rfl (fun K hK=>?_);go_simp
 refine (FT.out _).mono ?_;rintro e w4' ⟨⟨v4,rfl,ho4⟩,hc4⟩;have hD4:(fun U:World=>Chg [] w3 U) w4':=Chg.trans hD hc4;refine zB hK ?_;clear hK K
 try simp only[zP]
 refine zU 12 rfl (by go_simp<;>with_reducible rfl) ?_
 try simp only[zP]
 refine zU 13 rfl (by go_simp<;>with_reducible rfl) ?_
 try simp only[zP]
 refine zU 14 rfl (by go_simp<;>with_reducible rfl) ?_
 try simp only[zP]
 refine zU 15 rfl (by go_simp<;>with_reducible rfl) ?_
 try simp only[zP]
 refine zU 16 rfl (by go_simp<;>with_reducible rfl) ?_
 try simp only[zP]
 refine wpAnyH_done (by kernel_rfl) ?_ _;refine NoPanic.normal ?_;have HS4:=zH (Sl.less (B':=0) (OwY.sl ho4) (Nat.zero_le _));have HJ4:=zH (HJ3.out.chg hD4 (by simp));have HG4:=zH (HG3.out.chg hD4 (by simp));have HC4:=zH (HC3.out.trans hD4);have k0:=HJ4.out.at_ (j_a J)
 have k1:w4'.cell? ⟨J.ga,0,none⟩=some (.int .i64 node):=HG4.out.cell 0;clear hD hD4 hc4 ho4 SD SS ST HJ3 HG3 HC3 HB3 FT;go_wp2_with fail;refine (FS.out _).mono ?_;rintro e w5 ⟨rfl,hc5⟩;have hA5:=hc5.alloc (.cells (arrA sa) 24)
 have HI:=zH (FI.out (w5.alloc (.cells (arrA sa) 24)) v4 (.slice (some ⟨w5.heap.size,0,none⟩) 1 1) (Sl.chg0 HS4.out hA5) (litD w5 sa));have HC5:=zH (HC4.out.trans hA5);clear FS FI k0 k1 HS4 HJ4 HG4 HC4 hc5 hA5;go_wp2_with fail;refine HI.out.mono ?_;rintro e w6 ⟨⟨v6,rfl,ho6⟩,hc6⟩
 obtain⟨A6,c6,rfl⟩:=Sl.form (Sl.of_own ho6);have hA6:=hc6.alloc (.cells #[.slice A6 y2.length c6] 22);have HC6:=zH (HC5.out.trans hA6);have hz6:=HC6.out.size;have hz5:=HC5.out.size;have HO6:=zH (own_chg ho6 ((Chg.refl [] w6).alloc (.cells #[.slice A6 y2.length c6] 22)) (by simp))
 have HN:Hid ((w6.alloc (.cells #[.slice A6 y2.length c6] 22)).ownsRow w6.heap.size 22 1 (.slice none 0 0) 0 []):=zH (World.ownsRow_nil ..)
 have HL:Hid (Sl (w6.alloc (.cells #[.slice A6 y2.length c6] 22)) 0 1 (.slice (some ⟨w6.heap.size,0,none⟩) 1 1) 1 [.slice A6 y2.length c6]):=zH (Sl.of_own (own_lit (base:=0) w6 22 1 1 #[.slice A6 y2.length c6] (Nat.zero_le _) (by simp[maxLen]) rfl))
 have hz7:w.heap.size≤w6.heap.size:=by have:=hc6.size;omega
 have hone:∀u∈[(Value.slice A6 y2.length c6)],u.oneCell'=true:=by intro u hu;simp at hu;subst hu;rfl
 have HW6:Hid (w5.heap.size≤w6.heap.size):=zH (by have:=hc6.size;simp at this;omega);clear HI hc6 ho6 hA6 HC5;go_wp2_with (first
  |(at_builtin;refine wpList_app elS rfl (.tmp 60) (.tmp 62) rfl w6.heap.size rfl HN.out rfl HL.out hone (by simp[maxLen]) (by simp) (by simp) ?_;intro v7 w7 hown7 hc7 hb7)
  |fail)
 rw[rounds_succ];obtain⟨go7,c7,rfl,hg7,hg7l⟩:=own_form hown7 (by simp);have k7:=own_cell0 hown7;have hc7':Chg [] (w6.alloc (.cells #[.slice A6 y2.length c6] 22)) w7:=hc7;have HF:=zH (And.intro k7 (And.intro (own_chg HO6.out hc7' (by simp)) (HC6.out.trans hc7')));clear hc7 hc7' hown7 hb7 k7
 go_wp2_with fail;go_ret
 exact⟨⟨go7,c7,_,rfl,HF.out.1,ownsRow_less HF.out.2.1 hz5,by omega⟩,HF.out.2.2⟩
end Go.Proofs.YtgbndaiifbogmaaGreat
