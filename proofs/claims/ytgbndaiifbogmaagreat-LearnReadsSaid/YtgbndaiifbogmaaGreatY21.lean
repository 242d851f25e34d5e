/-
  Small laws and walks on the way to LearnReads: Rm12, Rc, Ro7, Rd4. Conditions: each theorem names its own.
-/
import Derived.Test.YtgbndaiifbogmaaGreatY10
import Derived.Test.YtgbndaiifbogmaaGreatY20
import Derived.Test.YtgbndaiifbogmaaGreatY17
import Derived.Test.YtgbndaiifbogmaaGreatY12
set_option linter.unusedVariables false
set_option linter.unusedSimpArgs false
set_option maxRecDepth 100000
set_option maxHeartbeats 8000000
namespace Go.Proofs.YtgbndaiifbogmaaGreat
open Go.RowKit Go.Maps
@[reducible] def arrSi (n d r:Int):Array Value:=#[.int .i64 n,.int .i64 d,.int .u32 r]
theorem infSi {n d r:Int}:(Tryz.prog.info? 63).map (·.size)=some (arrSi n d r).size:=by
 show _=some 3;kernel_rfl
def sidI (n d r:Nat) (i:Nat):Ad:=⟨253,108,0,98,0,0,0,0,(n/256%256:Nat),(n%256:Nat),d,0,if 0<i then (r/16777216%256:Nat) else 0,if 1<i then (r/65536%256:Nat) else 0,if 2<i then (r/256%256:Nat) else 0,if 3<i then (r%256:Nat) else 0⟩
theorem sidI_all {n d r:Nat} (hn:n≤65535) (hd:d≤255) (hr:r≤4294967295):sidI n d r 4=sidA n d r:=by
 have e0:((n:Int)/256)=((n/256:Nat):Int):=rfl;have e1:((loB ((n/256:Nat):Int):Nat):Int)=((n/256%256:Nat):Int):=by rw[loB_small (by omega)];omega
 have e2:((loB (n:Int):Nat):Int)=((n%256:Nat):Int):=by rw[←loB_eq,u8w_eq];omega
 have e3:((loB (d:Int):Nat):Int)=(d:Int):=loB_small (by omega);unfold sidA sidI;rw[e0,e1,e2,e3];simp
theorem sidI_next {n d r i:Nat} (hi:i<4):(arrA (sidI n d r i)).setIfInBounds (12+i) (.int .u8 (gB (fourS r) i:Nat))=arrA (sidI n d r (i+1)):=by
 rcases (show i=0∨i=1∨i=2∨i=3 by omega) with rfl|rfl|rfl|rfl
 all_goals rfl
theorem rmake_any {n d r:Nat} (hn:n≤65535) (hd:d≤255) (hr:r≤4294967295) (w:World) :
  Calls Tryz.prog 18 #[.agg (arrSi n d r)] w fun e w'=>e=.returned (.tuple #[.agg (arrA (sidA n d r)),.int .i64 0])∧Chg [] w w':=by
 have hA:=((Chg.refl [] w).alloc (.cells (arrSi n d r) 63)).alloc (.cells (arrA ad0) 24);have hB:Blk ((w.alloc (.cells (arrSi n d r) 63)).alloc (.cells (arrA ad0) 24)) w.heap.size 63 (arrSi n d r):=(Blk.new _ _ _).alloc _
 have hZ:Blk ((w.alloc (.cells (arrSi n d r) 63)).alloc (.cells (arrA ad0) 24)) (w.heap.size+1) 24 (arrA ad0):=Blk.new' (by simp);have c0:=hB.cell 0;have c1:=hB.cell 1;have hB':=hB.alloc (.cells (arrA ad0) 24);have hZ':=hZ.alloc (.cells (arrA ad0) 24)
 have h4:Blk (((w.alloc (.cells (arrSi n d r) 63)).alloc (.cells (arrA ad0) 24)).alloc (.cells (arrA ad0) 24)) (w.heap.size+1+1) 24 (arrA ad0):=Blk.new' (by simp);have HA:=zH (hA.alloc (.cells (arrA ad0) 24));have n1:¬(n:Int)<0:=by omega
 have n2:¬(n:Int)>65535:=by omega
 have d1:¬(d:Int)<0:=by omega
 have d2:¬(d:Int)>255:=by omega
 have HALL:=zH (sidI_all hn hd hr);have HNX:=zH (fun i (hi:i<4)=>sidI_next (n:=n) (d:=d) (r:=r) hi);have FT:=zH (two01_any n (by omega));have FF:=zH (four01_any r (by omega));have hwd:IntKind.u8.wrap (d:Int)=(d:Int):=by rw[IntKind.wrap_u8'];omega
 have HF4:Hid (∀i,i<4→((fourS r).map byV)[i]?=some (.int .u8 (gB (fourS r) i:Nat))):=zH (fun i hi=>by
  rcases (show i=0∨i=1∨i=2∨i=3 by omega) with rfl|rfl|rfl|rfl
  all_goals rfl)
 have HT2:Hid ((twoS n).map byV=[byV (n/256%256),byV (n%256)]):=zH rfl;clear hA hB hZ hn hd hr;go_enter Tryz.func18,Tryz.ntmps18
 go_upto_region 5 with (first
  |(refine wpList_store_cell (v:=.int .u8 253) rfl 5 (.tmp 27) _ rfl rfl h4 rfl rfl rfl (by show _<16;omega) (by kernel_rfl) rfl ?_;intro wa hBa hca)
  |(refine wpList_store_cell (v:=.int .u8 108) rfl 5 (.tmp 28) _ rfl rfl hBa rfl rfl rfl (by show _<16;omega) (by kernel_rfl) rfl ?_;intro wb hBb hcb)
  |(refine wpList_store_cell (v:=.int .u8 98) rfl 5 (.tmp 29) _ rfl rfl hBb rfl rfl rfl (by show _<16;omega) (by kernel_rfl) rfl ?_;intro wc hBc hcc)
  |fail)
 have hB4:Blk wc (w.heap.size+1+1) 24 (arrA ⟨253,108,0,98,0,0,0,0,0,0,0,0,0,0,0,0⟩):=hBc;have hS:=hB'.chg ((hca.trans hcb).trans hcc) (by simp;omega);have hZc:=hZ'.chg ((hca.trans hcb).trans hcc) (by simp);have HC:=zH (HA.out.trans' ((hca.trans hcb).trans hcc) (zN (by omega)))
 clear hBa hBb hBc hca hcb hcc h4 hB' hZ' c0 c1 HA n1 n2 d1 d2;have S0:Hid (∀W,Chg [] wc W→W.cell? ⟨w.heap.size,0,none⟩=some (.int .i64 n)):=zH (fun W hc=>(hS.chg hc (by simp)).cell 0)
 have S2:Hid (∀W,Chg [] wc W→W.cell? ⟨w.heap.size,2,none⟩=some (.int .u32 r)):=zH (fun W hc=>(hS.chg hc (by simp)).cell 2);have hD:Chg [] wc wc.drew:=(Chg.refl [] wc).drew;refine wp_region_noPanic ?_;refine wp_region_held_drew (S:=fun W:World=>Chg [] wc W) (by kernel_rfl) hD (fun _=>?_)
 refine zU 0 rfl (by go_simp<;>with_reducible rfl) ?_
 try simp only[zP]
 refine zT 1 rfl (zc (by rfl) 3 (.tmp 30) rfl w.heap.size 0 rfl (.int .i64 n) _ S0.out Tryz.underlying3 rfl) ?_
 try simp only[zP]
 refine zU 3 rfl (by go_simp<;>with_reducible rfl) ?_
 try simp only[zP]
 refine zT 4 rfl (zc (by rfl) 31 (.tmp 33) rfl w.heap.size 2 rfl (.int .u32 r) _ S2.out Tryz.underlying31 rfl) ?_
 try simp only[zP]
 refine zR 2 rfl (fun K hK=>?_);go_simp
 refine (FT.out _).mono ?_;rintro e wd ⟨vn,rfl,hon,hcd⟩;have hCd:(fun W:World=>Chg [] wc W) wd:=hD.trans hcd;have hzd:wc.heap.size≤wd.heap.size:=hcd.size;clear hcd;refine zB hK ?_;clear hK K
 try simp only[zP]
 refine zR 5 rfl (fun K hK=>?_);go_simp
 refine (FF.out _).mono ?_;rintro e we ⟨vu,rfl,hou,hce⟩;have hCe:(fun W:World=>Chg [] wc W) we:=Chg.trans hCd hce;have hOn:=own_chg hon hce (by simp);clear hce hon;refine zB hK ?_;clear hK K
 try simp only[zP]
 refine zU 6 rfl (by go_simp<;>with_reducible rfl) ?_
 try simp only[zP]
 refine zU 7 rfl (by go_simp<;>with_reducible rfl) ?_
 try simp only[zP]
 refine wpAnyH_done (by kernel_rfl) ?_ _;refine NoPanic.normal ?_;have hOu:we.ownsRow wd.heap.size 5 1 vu (fourS r).length ((fourS r).map byV):=hou;have hSe:=hS.chg hCe (by simp);have hZe:=hZc.chg hCe (by simp);have hBe:=hB4.chg hCe (by simp);have HCe:=zH (HC.out.trans hCe);have hgt:=hBe.lt
 have hOn1:we.ownsRow wc.heap.size 5 1 vn (twoS n).length ((twoS n).map byV):=hOn;obtain⟨gn,cn,rfl,hgn,hgnl⟩:=own_form hOn1 (by simp[twoS]);obtain⟨gu,cu,rfl,hgu,hgul⟩:=own_form hOu (by simp[fourS]);have hbz:w.heap.size+1+1<wc.heap.size:=hB4.lt
 have hOn2:OwY we wc.heap.size (.slice (some ⟨gn,0,none⟩) (twoS n).length cn) (twoS n):=hOn;have hOu2:OwY we wd.heap.size (.slice (some ⟨gu,0,none⟩) (fourS r).length cu) (fourS r):=hOu
 have SN0:Hid (∀W,Chg [w.heap.size+1+1] we W→W.cell? ⟨gn,0,none⟩=some (.int .u8 (n/256%256:Nat))):=zH (fun W hc=>hc.cell (by
  obtain⟨b9,o9,c9,e9,_,hcell⟩:=(OwY.sl hOn2).at_ (i:=0) (by simp[twoS]);simp only[Value.slice.injEq,Option.some.injEq,Addr.mk.injEq,and_true,true_and]at e9;obtain⟨⟨rfl,rfl⟩,-⟩:=e9;exact hcell) (by simp;omega))
 have SN1:Hid (∀W,Chg [w.heap.size+1+1] we W→W.cell? ⟨gn,1,none⟩=some (.int .u8 (n%256:Nat))):=zH (fun W hc=>hc.cell (by
  obtain⟨b9,o9,c9,e9,_,hcell⟩:=(OwY.sl hOn2).at_ (i:=1) (by simp[twoS]);simp only[Value.slice.injEq,Option.some.injEq,Addr.mk.injEq,and_true,true_and]at e9;obtain⟨⟨rfl,rfl⟩,-⟩:=e9;exact hcell) (by simp;omega))
 have SU:Hid (∀i,i<4→∀W,Chg [w.heap.size+1+1] we W→W.cell? ⟨gu,i,none⟩=some (.int .u8 (gB (fourS r) i:Nat))):=zH (fun i hi W hc=>hc.cell (by
  obtain⟨b9,o9,c9,e9,_,hcell⟩:=(OwY.sl hOu2).at_ (i:=i) (by simp[fourS];omega);simp only[Value.slice.injEq,Option.some.injEq,Addr.mk.injEq,and_true,true_and]at e9;obtain⟨⟨rfl,rfl⟩,-⟩:=e9;rw[Nat.zero_add]at hcell;exact hcell) (by simp;omega))
 have S1:Hid (∀W,Chg [w.heap.size+1+1] we W→W.cell? ⟨w.heap.size,1,none⟩=some (.int .i64 d)):=zH (fun W hc=>(hSe.chg hc (by simp;omega)).cell 1);have hL2:(twoS n).length=2:=rfl;have hL4:(fourS r).length=4:=rfl;rw[hL2];rw[hL4];have hD:Chg [w.heap.size+1+1] we we.drew:=(Chg.refl _ we).drew
 have HBe:=zH hBe;have HZe:=zH hZe;clear hOn hOn1 hOu hOn2 hOu2 hou hCe hCd hS hZc hB4 S0 S2 hSe hZe HC FT FF;go_upto_region 6 with fail
 refine wp_region_noPanic ?_;refine wp_region_held_drew (S:=fun W:World=>Chg [w.heap.size+1+1] we W) (by kernel_rfl) hD (fun _=>?_);refine zU 0 rfl (by go_simp<;>with_reducible rfl) ?_
 try simp only[zP]
 refine zU 1 rfl (by go_simp<;>with_reducible rfl) ?_
 try simp only[zP]
 refine zT 2 rfl (zc (by rfl) 5 (.tmp 37) rfl gn 0 rfl (.int .u8 (n/256%256:Nat)) _ SN0.out Tryz.underlying5 rfl) ?_
 try simp only[zP]
 refine zU 3 rfl (by go_simp<;>with_reducible rfl) ?_
 try simp only[zP]
 refine zU 4 rfl (by go_simp<;>with_reducible rfl) ?_
 try simp only[zP]
 refine zT 5 rfl (zc (by rfl) 5 (.tmp 40) rfl gn 1 rfl (.int .u8 (n%256:Nat)) _ SN1.out Tryz.underlying5 rfl) ?_
 try simp only[zP]
 refine zU 6 rfl (by go_simp<;>with_reducible rfl) ?_
 try simp only[zP]
 refine zT 7 rfl (zc (by rfl) 3 (.tmp 42) rfl w.heap.size 1 rfl (.int .i64 d) _ S1.out Tryz.underlying3 rfl) ?_
 try simp only[zP]
 refine zU 8 rfl (by go_simp<;>with_reducible rfl) ?_
 try simp only[zP]
 refine zU 9 rfl (by go_simp<;>with_reducible rfl) ?_
 try simp only[zP]
 refine zR 10 rfl (fun K hK=>?_);refine step_store_cell (v:=.int .u8 (n/256%256:Nat)) rfl 5 (.tmp 45) (.tmp 38) rfl HBe.out.drew rfl rfl rfl (by show _<16;omega) (by kernel_rfl) rfl ?_;intro wf hBf hcf;have hCf:(fun W:World=>Chg [w.heap.size+1+1] we W) wf:=hD.trans hcf;refine zB hK ?_;clear hK K
 try simp only[zP]
 refine zU 11 rfl (by go_simp<;>with_reducible rfl) ?_
 try simp only[zP]
 refine zR 12 rfl (fun K hK=>?_);refine step_store_cell (v:=.int .u8 (n%256:Nat)) rfl 5 (.tmp 46) (.tmp 41) rfl hBf rfl rfl rfl (by show _<16;omega) (by kernel_rfl) rfl ?_;intro wg hBg hcg;have hCg:(fun W:World=>Chg [w.heap.size+1+1] we W) wg:=Chg.trans hCf hcg;refine zB hK ?_;clear hK K
 try simp only[zP]
 refine zU 13 rfl (by go_simp<;>with_reducible rfl) ?_
 try simp only[zP]
 refine zR 14 rfl (fun K hK=>?_);refine step_store_cell (v:=.int .u8 d) rfl 5 (.tmp 47) (.tmp 44) rfl hBg rfl rfl rfl (by show _<16;omega) (by kernel_rfl) rfl ?_;intro wh hBh hch;have hCh:(fun W:World=>Chg [w.heap.size+1+1] we W) wh:=Chg.trans hCg hch;refine zB hK ?_;clear hK K
 try simp only[zP]
 refine wpAnyH_done (by kernel_rfl) ?_ _;refine NoPanic.normal ?_;have HBI:Hid (Blk wh (w.heap.size+1+1) 24 (arrA (sidI n d r 0))):=zH hBh;have HCH:=zH hCh;clear hBf hcf hCf hBg hcg hCg hBh hch hCh hD HBe SN0 SN1 S1 hwd;go_wp2_with fail
 go_loopw [7] (fun iv wr=>∃i:Nat,i≤4∧iv=.int .i64 i∧Hid (Blk wr (w.heap.size+1+1) 24 (arrA (sidI n d r i)))∧Hid (Chg [w.heap.size+1+1] we wr)) (fun iv _=>4-(intOf iv).toNat)
 case atStart=>exact⟨0,by omega,rfl,HBI,HCH⟩
 case round=>
  obtain⟨i,hi,rfl,HB,HR⟩:=hrel;by_cases h4:i<4
  ·have iI:(i:Int)<4:=by omega
   have ei:IntKind.i64.wrap ((i:Int)+1)=(i:Int)+1:=by rw[IntKind.wrap_i64];omega
   have e12:IntKind.i64.wrap (12+(i:Int))=((12+i:Nat):Int):=by rw[IntKind.wrap_i64];omega
   have i16:((12+i:Nat):Int)<16:=by omega
   have cu:=SU.out i h4 wr HR.out;have hb:=HB.out;have hnx:=HNX.out i h4;generalize gB (fourS r) i=x at *;clear HB SU HNX;go_wp2_with (first
    |(refine wpList_store_cell (v:=.int .u8 x) rfl 5 (.tmp 58) (.tmp 57) rfl rfl hb rfl rfl rfl (by show _<16;omega) (by kernel_rfl) rfl ?_;intro wk hbk hck)
    |fail)
   rw[hnx]at hbk;have HRK:=zH (HR.out.trans hck);have HBK:=zH hbk;clear hb hbk hck HR hnx;go_wp2_with fail;go_roundw
   case rel=>exact⟨i+1,by omega,by go_num,HBK,HRK⟩
   case measure=>simp[intOf];omega
  ·have iI:¬(i:Int)<4:=by omega
   obtain rfl:i=4:=by omega
   have hb:=HB.out;rw[HALL.out]at hb;have hz:=HZe.out.chg HR.out (by simp);have HC:=zH (HCe.out.trans' HR.out (zN (by omega)));clear HB HR SU HNX HALL HZe HCe HBI HCH;go_wp2_with (first
    |(refine zl rfl 24 (.tmp 4) rfl hb rfl _ Tryz.underlying24 rfl infAd ?_)
    |(refine zs (vs:=arrA (sidA n d r)) rfl 24 (.tmp 2) (.tmp 59) rfl rfl hz rfl rfl rfl infAd rfl ?_;intro w9 hB9 hc9)
    |fail)
   refine bodyPost_ret (zr rfl rfl hB9 _ Tryz.underlying24 rfl infAd) rfl ?_;exact⟨rfl,HC.out.trans' hc9 (zN (by omega))⟩
end Go.Proofs.YtgbndaiifbogmaaGreat
namespace Go.Proofs.YtgbndaiifbogmaaGreat
open Go.RowKit Go.Maps
theorem rnot_any {s:Nat} (h:s<4294967296) (w:World):Calls Tryz.prog 172 #[.int .i64 s] w fun e w'=>e=.returned (.int .i64 (notC s:Nat))∧w=w':=by
 have F:=zH (rmod_any h w);have HN:Hid (notC s=65535-s%65536):=zH rfl;have l1:s%65536<65536:=Nat.mod_lt _ (by omega);generalize notC s=r at *;generalize s%65536=m at *;have hw:IntKind.i64.wrap (65535-(m:Int))=(r:Nat):=by have:=HN.out;rw[IntKind.wrap_i64];omega
 clear HN h;go_enter Tryz.func172,Tryz.ntmps172
 go_wp2_with fail;refine F.out.mono ?_;rintro e w1 ⟨rfl,rfl⟩;go_wp2_with fail;go_ret
 exact⟨rfl,rfl⟩
theorem rfine_any {src dst:Ad} (hs:okA src) (hd:okA dst) (next:Int) {w:World} {v:Value} {l:By} (h:SlY w 0 v l) (hb:okB l) (hl:l.length≤900000) :
  Calls Tryz.prog 45 #[.agg (arrA src),.agg (arrA dst),.int .i64 next,v] w fun e w'=>e=.returned (.bool (fineC src dst next l))∧Chg [] w w':=by
 obtain⟨A,c,rfl⟩:=h.form;have hA:=((Chg.refl [] w).alloc (.cells (arrA src) 24)).alloc (.cells (arrA dst) 24);have hB1:Blk ((w.alloc (.cells (arrA src) 24)).alloc (.cells (arrA dst) 24)) w.heap.size 24 (arrA src):=(Blk.new _ _ _).alloc _
 have hB2:Blk ((w.alloc (.cells (arrA src) 24)).alloc (.cells (arrA dst) 24)) (w.heap.size+1) 24 (arrA dst):=Blk.new' (by simp);have FP:=zH (fun W=>rpseudo_any hs hd (l.length:Int) next W);have FS:=zH (fun W (hc:Chg [] w W)=>rsum_any (h.chg0 hc) hb hl)
 have HF:Hid (fineC src dst next l=(joinC (sumC 0 (pseudoB src dst l.length next)) (sumC 0 l)==65535)):=zH rfl;have k1:=sumC_lt 0 (pseudoB src dst l.length next) (by omega);have k2:=sumC_lt 0 l (by omega);have HA:=zH hA;generalize fineC src dst next l=r at *
 generalize sumC 0 (pseudoB src dst l.length next)=x at *;generalize sumC 0 l=y at *;have FJ:=zH (fun W=>rjoin_any (a:=x) (b:=y) (by omega) (by omega) W);have hbq:(((joinC x y:Nat):Int)==65535)=(joinC x y==65535):=by
  by_cases hq:joinC x y=65535
  ·rw[hq];rfl
  ·have e1:(joinC x y==65535)=false:=by simpa using hq
   rw[e1,beq_eq_false_iff_ne];omega
 have HBQ:=zH hbq;generalize joinC x y=z at *;generalize l.length=n at *;clear hA h hb hl k1 k2 hbq;go_enter Tryz.func45,Tryz.ntmps45
 go_wp2_with (first
  |(refine zl rfl 24 (.tmp 4) rfl hB1 rfl _ Tryz.underlying24 rfl infAd ?_)
  |(refine zl rfl 24 (.tmp 5) rfl hB2 rfl _ Tryz.underlying24 rfl infAd ?_)
  |fail)
 refine (FP.out _).mono ?_;rintro e w1 ⟨rfl,hc1⟩;have HC1:=zH (HA.out.trans hc1);clear FP hB1 hB2 hc1;go_wp2_with fail;refine (FS.out _ HC1.out).mono ?_;rintro e w2 ⟨rfl,hc2⟩;have HC2:=zH (HC1.out.trans hc2);clear FS hc2;go_wp2_with fail;refine (FJ.out _).mono ?_;rintro e w3 ⟨rfl,hw3⟩;rw[hw3]at HC2
 go_wp2_with fail;go_ret
 refine⟨?_,HC2.out⟩;rw[HF.out,←HBQ.out];rfl
theorem rcheck_any {src dst:Ad} (hs:okA src) (hd:okA dst) (next:Int) {w:World} {v:Value} {l:By} (h:SlY w 0 v l) (hb:okB l) (hl:l.length≤900000) :
  Calls Tryz.prog 117 #[.agg (arrA src),.agg (arrA dst),.int .i64 next,v] w fun e w'=>e=.returned (.int .i64 (checkC src dst next l:Nat))∧Chg [] w w':=by
 obtain⟨A,c,rfl⟩:=h.form;have hA:=((Chg.refl [] w).alloc (.cells (arrA src) 24)).alloc (.cells (arrA dst) 24);have hB1:Blk ((w.alloc (.cells (arrA src) 24)).alloc (.cells (arrA dst) 24)) w.heap.size 24 (arrA src):=(Blk.new _ _ _).alloc _
 have hB2:Blk ((w.alloc (.cells (arrA src) 24)).alloc (.cells (arrA dst) 24)) (w.heap.size+1) 24 (arrA dst):=Blk.new' (by simp);have FP:=zH (fun W=>rpseudo_any hs hd (l.length:Int) next W);have FS:=zH (fun W (hc:Chg [] w W)=>rsum_any (h.chg0 hc) hb hl)
 have HF:Hid (checkC src dst next l=notC (joinC (sumC 0 (pseudoB src dst l.length next)) (sumC 0 l))):=zH rfl;have k1:=sumC_lt 0 (pseudoB src dst l.length next) (by omega);have k2:=sumC_lt 0 l (by omega);have HA:=zH hA;generalize checkC src dst next l=r at *
 generalize sumC 0 (pseudoB src dst l.length next)=x at *;generalize sumC 0 l=y at *;have FJ:=zH (fun W=>rjoin_any (a:=x) (b:=y) (by omega) (by omega) W);have hjl:=joinC_lt x y;have FN:=zH (fun W=>rnot_any (s:=joinC x y) (by omega) W);rw[←HF.out]at FN;generalize joinC x y=z at *
 generalize l.length=n at *;clear hA h hb hl k1 k2;go_enter Tryz.func117,Tryz.ntmps117
 go_wp2_with (first
  |(refine zl rfl 24 (.tmp 4) rfl hB1 rfl _ Tryz.underlying24 rfl infAd ?_)
  |(refine zl rfl 24 (.tmp 5) rfl hB2 rfl _ Tryz.underlying24 rfl infAd ?_)
  |fail)
 refine (FP.out _).mono ?_;rintro e w1 ⟨rfl,hc1⟩;have HC1:=zH (HA.out.trans hc1);clear FP hB1 hB2 hc1;go_wp2_with fail;refine (FS.out _ HC1.out).mono ?_;rintro e w2 ⟨rfl,hc2⟩;have HC2:=zH (HC1.out.trans hc2);clear FS hc2;go_wp2_with fail;refine (FJ.out _).mono ?_;rintro e w3 ⟨rfl,hw3⟩;rw[hw3]at HC2
 go_wp2_with fail;refine (FN.out _).mono ?_;rintro e w4 ⟨rfl,hw4⟩;rw[hw4]at HC2;go_wp2_with fail;go_ret
 exact⟨rfl,HC2.out⟩
end Go.Proofs.YtgbndaiifbogmaaGreat
namespace Go.Proofs.YtgbndaiifbogmaaGreat
open Go.RowKit Go.Maps
@[reducible] def arr6 (a b c d e f:Int):Array Value:=#[.int .i64 a,.int .i64 b,.int .i64 c,.int .i64 d,.int .i64 e,.int .i64 f]
theorem inf6 {a b c d e f:Int}:(Tryz.prog.info? 217).map (·.size)=some (arr6 a b c d e f).size:=by
 show _=some 6;kernel_rfl
def sixT (t:Sg):Nat→Int
 |0=>t.sport
 |1=>t.dport
 |2=>t.window
 |3=>t.ck
 |4=>t.urgent
 |_=>t.flags
theorem six_cell {t:Sg} {i:Nat} (hi:i<6):(arr6 t.sport t.dport t.window t.ck t.urgent t.flags)[i]?=some (.int .i64 (sixT t i)):=by
 match i,hi with
 |0,_=>rfl
 |1,_=>rfl
 |2,_=>rfl
 |3,_=>rfl
 |4,_=>rfl
 |5,_=>rfl
def badT (t:Sg) (i:Nat):Prop:=sixT t i<0∨sixT t i>65535∨(i=5∧sixT t i>255)
theorem badT_nums {t:Sg} {i:Nat} (hi:i<6) (h:badT t i):numsT t=false:=by
 unfold numsT;refine decide_eq_false ?_;intro ⟨⟨a,b⟩,⟨c,d⟩,⟨e,f⟩,⟨g,j⟩,⟨k,l⟩,m,n⟩
 match i,hi with
 |0,_=>simp only[badT,sixT]at h;omega
 |1,_=>simp only[badT,sixT]at h;omega
 |2,_=>simp only[badT,sixT]at h;omega
 |3,_=>simp only[badT,sixT]at h;omega
 |4,_=>simp only[badT,sixT]at h;omega
 |5,_=>simp only[badT,sixT]at h;omega
theorem goodT_nums {t:Sg} (h:∀i,i<6→¬badT t i):numsT t=true:=by
 unfold numsT;have h0:=h 0 (by omega);have h1:=h 1 (by omega);have h2:=h 2 (by omega);have h3:=h 3 (by omega);have h4:=h 4 (by omega);have h5:¬(t.flags<0∨t.flags>65535∨(5=5∧t.flags>255)):=h 5 (by omega);simp only[badT,sixT]at h0 h1 h2 h3 h4;refine decide_eq_true ?_;omega
theorem rcanT_any (t:Sg) (A:Option Addr) (n c:Nat) (hn:n≤1000000) (w:World) :
  Calls Tryz.prog 115 #[.agg (arrTc t noV (.slice A n c))] w fun e w'=>e=.returned (.int .i64 (canT t n))∧Chg [] w w':=by
 have hB:Blk (w.alloc (.cells (arrTc t noV (.slice A n c)) 34)) w.heap.size 34 (arrTc t noV (.slice A n c)):=Blk.new _ _ _;have hA1:=((Chg.refl [] w).alloc (.cells (arrTc t noV (.slice A n c)) 34)).alloc (.cells (arr6 0 0 0 0 0 0) 217)
 have hB1:Blk ((w.alloc (.cells (arrTc t noV (.slice A n c)) 34)).alloc (.cells (arr6 0 0 0 0 0 0) 217)) (w.heap.size+1) 217 (arr6 0 0 0 0 0 0):=Blk.new' (by simp);have HBB:=zH (hB.alloc (.cells (arr6 0 0 0 0 0 0) 217));have c0:=hB.cell 0;have c1:=hB.cell 1;have c4:=hB.cell 4;have c5:=hB.cell 5
 have c6:=hB.cell 6;have c7:=hB.cell 7;have HA:=zH hA1;have HC:Hid (canT t n=if numsT t=false then 2 else if 65515<n then 4 else 0):=zH rfl;have HBAD:=zH (fun i (hi:i<6) (h:badT t i)=>badT_nums hi h);have HGOOD:=zH (fun (h:∀i,i<6→¬badT t i)=>goodT_nums h)
 have HCELL:=zH (fun i (hi:i<6)=>six_cell (t:=t) hi);have FO:=zH oput0_any;clear hA1 hB;generalize canT t n=r at *;generalize numsT t=nt at *;go_enter Tryz.func115,Tryz.ntmps115
 go_upto_region 2 with (first
  |(refine zs (vs:=arr6 t.sport t.dport t.window t.ck t.urgent t.flags) rfl 217 (.tmp 3) (.tmp 19) rfl rfl hB1 rfl rfl rfl inf6 rfl ?_;intro w2 hB2 hc2)
  |fail)
 have HC2:=zH (HA.out.trans' hc2 (zN (by omega)));have HB2:=zH hB2;have HBT:=zH (HBB.out.chg hc2 (by simp));clear hB1 hB2 hc2 HA HBB c0 c1 c4 c5 c6 c7;go_wp2_with fail;go_loopw [4] (fun iv wr=>∃i:Nat,i≤6∧iv=.int .i64 i∧Hid (wr=w2)∧Hid (∀j,j<i→¬badT t j)) (fun iv _=>6-(intOf iv).toNat)
 case atStart=>exact⟨0,by omega,rfl,zH rfl,zH (fun j hj=>by omega)⟩
 case round=>
  obtain⟨i,hi,rfl,HW,HG⟩:=hrel;obtain rfl:wr=_:=HW.out;by_cases h6:i<6
  ·have iI:(i:Int)<6:=by omega
   have ei:IntKind.i64.wrap ((i:Int)+1)=(i:Int)+1:=by rw[IntKind.wrap_i64];omega
   have ci:wr.cell? ⟨w.heap.size+1,i,none⟩=some (.int .i64 (sixT t i)):=by
    rw[HB2.out.cell];exact HCELL.out i h6
   have HI:Hid (badT t i↔(sixT t i<0∨sixT t i>65535∨(i=5∧sixT t i>255))):=zH Iff.rfl;have HBI:=zH (HBAD.out i h6);generalize sixT t i=x at *;clear HBAD;by_cases n0:x<0
   ·have hr:Hid (r=2):=zH (by rw[HC.out,if_pos (HBI.out (HI.out.2 (.inl n0)))]);clear HI HBI HC HGOOD HG HW HBT HB2 HCELL;go_wp2_with fail;go_ret
    exact⟨by rw[hr.out];rfl,HC2.out⟩
   by_cases n1:x>65535
   ·have hr:Hid (r=2):=zH (by rw[HC.out,if_pos (HBI.out (HI.out.2 (.inr (.inl n1))))]);clear HI HBI HC HGOOD HG HW HBT HB2 HCELL;go_wp2_with fail;go_ret
    exact⟨by rw[hr.out];rfl,HC2.out⟩
   by_cases n2:i=5
   ·subst n2;by_cases n3:x>255
    ·have hr:Hid (r=2):=zH (by rw[HC.out,if_pos (HBI.out (HI.out.2 (.inr (.inr ⟨rfl,n3⟩))))]);clear HI HBI HC HGOOD HG HW HBT HB2 HCELL;go_wp2_with fail;go_ret
     exact⟨by rw[hr.out];rfl,HC2.out⟩
    ·have HG2:Hid (∀j,j<5+1→¬badT t j):=zH (fun j hj=>by
      by_cases e:j=5
      ·subst e;rw[HI.out];omega
      ·exact HG.out j (by omega))
     clear HI HBI HG;go_wp2_with fail;go_roundw
     case rel=>exact⟨5+1,by omega,by go_num,zH trivial,HG2⟩
     case measure=>simp[intOf]
   ·have hb5:((i:Int)==5)=false:=by rw[beq_eq_false_iff_ne];omega
    have HG2:Hid (∀j,j<i+1→¬badT t j):=zH (fun j hj=>by
     by_cases e:j=i
     ·subst e;rw[HI.out];omega
     ·exact HG.out j (by omega))
    clear HI HBI HG n2;go_wp2_with fail;go_roundw
    case rel=>exact⟨i+1,by omega,by go_num,zH trivial,HG2⟩
    case measure=>simp[intOf];omega
  ·have iI:¬(i:Int)<6:=by omega
   obtain rfl:i=6:=by omega
   have hnt:=HGOOD.out HG.out;have c8:wr.cell? ⟨w.heap.size,8,none⟩=some noV:=HBT.out.cell 8;have hX:=HC.out;rw[hnt,if_neg (by simp)]at hX;replace HX:=zH hX;clear HC HGOOD HG HBAD HCELL hX hnt HW HB2;go_wp2_with fail;refine (FO.out _).mono ?_;rintro e w3 ⟨rfl,hc3⟩
   have c9:w3.cell? ⟨w.heap.size,9,none⟩=some (.slice A n c):=(HBT.out.chg hc3 (by simp)).cell 9;have HC3:=zH (HC2.out.trans hc3);clear FO c8 HBT hc3;by_cases hl:65515<n
   ·have hr:Hid (r=4):=zH (by rw[HX.out,if_pos hl]);have hI:(n:Int)>65515:=by omega
    clear HX hl;go_wp2_with fail;go_ret
    exact⟨by rw[hr.out];rfl,HC3.out⟩
   ·have hr:Hid (r=0):=zH (by rw[HX.out,if_neg hl]);have hI:¬(n:Int)>65515:=by omega
    clear HX hl;go_wp2_with fail;go_ret
    exact⟨by rw[hr.out];rfl,HC3.out⟩
end Go.Proofs.YtgbndaiifbogmaaGreat
namespace Go.Proofs.YtgbndaiifbogmaaGreat
open Go.RowKit Go.Maps
@[reducible] def arr5 (a b c d e:Int):Array Value:=#[.int .i64 a,.int .i64 b,.int .i64 c,.int .i64 d,.int .i64 e]
theorem inf5 {a b c d e:Int}:(Tryz.prog.info? 282).map (·.size)=some (arr5 a b c d e).size:=by
 show _=some 5;kernel_rfl
theorem rcan_any (h:Hd) (w:World):Calls Tryz.prog 130 #[.agg (arrH h)] w fun e w'=>e=.returned (.int .i64 (canE h))∧Chg [] w w':=by
 have hA:=(Chg.refl [] w).alloc (.cells (arrH h) 26);have hB:Blk (w.alloc (.cells (arrH h) 26)) w.heap.size 26 (arrH h):=Blk.new _ _ _;have hA1:=hA.alloc (.cells (arr5 0 0 0 0 0) 282)
 have hB1:Blk ((w.alloc (.cells (arrH h) 26)).alloc (.cells (arr5 0 0 0 0 0) 282)) (w.heap.size+1) 282 (arr5 0 0 0 0 0):=Blk.new' (by simp);have c0:(w.alloc (.cells (arrH h) 26)).cell? ⟨w.heap.size,0,none⟩=some (.int .i64 h.cls):=hB.cell 0
 have c1:(w.alloc (.cells (arrH h) 26)).cell? ⟨w.heap.size,1,none⟩=some (.int .i64 h.lab):=hB.cell 1;have c2:(w.alloc (.cells (arrH h) 26)).cell? ⟨w.heap.size,2,none⟩=some (.int .i64 h.len):=hB.cell 2;have c3:(w.alloc (.cells (arrH h) 26)).cell? ⟨w.heap.size,3,none⟩=some (.int .i64 h.nxt):=hB.cell 3
 have c4:(w.alloc (.cells (arrH h) 26)).cell? ⟨w.heap.size,4,none⟩=some (.int .i64 h.hop):=hB.cell 4;have HA:=zH hA1;have HE:Hid (canH h=decide (0≤h.cls∧h.cls≤255∧0≤h.lab∧h.lab≤1048575∧0≤h.len∧h.len≤65535∧0≤h.nxt∧h.nxt≤255∧0≤h.hop∧h.hop≤255)):=zH rfl
 have HC:Hid (canE h=if canH h=true then 0 else 2):=zH rfl;generalize canE h=r at *;generalize canH h=ch at *;generalize h.cls=x0 at *;generalize h.lab=x1 at *;generalize h.len=x2 at *;generalize h.nxt=x3 at *;generalize h.hop=x4 at *;clear hA hA1 hB;go_enter Tryz.func130,Tryz.ntmps130
 go_upto_region 2 with (first
  |(refine zs (vs:=arr5 x0 x1 x2 x3 x4) rfl 282 (.tmp 3) (.tmp 16) rfl rfl hB1 rfl rfl rfl inf5 rfl ?_;intro w2 hB2 hc2)
  |fail)
 have HC2:=zH (HA.out.trans' hc2 (zN (by omega)));have hlt:=hB2.lt;have hB3:Blk (w2.alloc (.cells (arr5 0 0 0 0 0) 282)) w2.heap.size 282 (arr5 0 0 0 0 0):=Blk.new _ _ _;have hB23:=hB2.alloc (.cells (arr5 0 0 0 0 0) 282);have HC3:=zH (HC2.out.alloc (.cells (arr5 0 0 0 0 0) 282))
 have hz2:=HC2.out.size;clear hB1 hB2 hc2 HA HC2 c0 c1 c2 c3 c4;go_upto_region 3 with (first
  |(refine zs (vs:=arr5 255 1048575 65535 255 255) rfl 282 (.tmp 4) (.tmp 17) rfl rfl hB3 rfl rfl rfl inf5 rfl ?_;intro w4 hB4 hc4)
  |fail)
 have hB24:=hB23.chg hc4 (by simp;omega);have HC4:=zH (HC3.out.trans' hc4 (zN (by omega)));have HX:=zH (fun W (hc:Chg [] w4 W) i=>(hB24.chg hc (by simp)).cell i);have HM:=zH (fun W (hc:Chg [] w4 W) i=>(hB4.chg hc (by simp)).cell i);have HD:Hid (Chg [] w4 w4):=zH (Chg.refl _ _)
 generalize w2.heap.size=g2 at *;clear hB3 hB23 hB4 hB24 hc4 HC3 hlt hz2;go_wp2_with fail;refine wp_loop_rounds 6 ?_;rw[rounds_succ];go_upto_region 6 with fail
 have S0:Hid (∀W,Chg [] w4 W→W.cell? ⟨w.heap.size+1,0,none⟩=some (.int .i64 x0)):=zH (fun W hc=>HX.out W (HD.out.trans hc) 0);have M0:Hid (∀W,Chg [] w4 W→W.cell? ⟨g2,0,none⟩=some (.int .i64 255)):=zH (fun W hc=>HM.out W (HD.out.trans hc) 0);by_cases n0:x0<0
 ·have hch:ch=false:=by have:=HE.out;rw[this];exact decide_eq_false (by omega)
  have hr:Hid (r=2):=zH (by rw[HC.out,hch];rfl);clear HE HC hch HX HM;refine wp_region_chg (by kernel_rfl) (by kernel_rfl) ?_
  repeat (first
   |((with_reducible refine wpQuiet_cellC 3 (.tmp 23) ?_ ?_ (w.heap.size+1) 0 ?_ (.int .i64 x0) _ S0.out Tryz.underlying3 ?_ ?_);(focus rfl);(focus rfl);(focus rfl);(focus rfl);(try simp only[zP]))
   |((with_reducible refine wpQuiet_skip ?_ ?_);(focus rfl);(try simp only[zP]))
   |((with_reducible refine wpQuiet_pure (v:=?_) ?_ (fun w=>?_) ?_);rotate_left;(focus rfl);(focus (go_simp<;>with_reducible rfl));(try simp only[zP])))
  refine wpQuiet_nil ?_;intro wa hca;go_wp2_with fail;go_ret
  exact⟨by rw[hr.out];rfl,(HC4.out.trans HD.out).trans hca⟩
 by_cases b0:x0>255
 ·have hch:ch=false:=by have:=HE.out;rw[this];exact decide_eq_false (by omega)
  have hr:Hid (r=2):=zH (by rw[HC.out,hch];rfl);clear HE HC hch HX HM;refine wp_region_chg (by kernel_rfl) (by kernel_rfl) ?_
  repeat (first
   |((with_reducible refine wpQuiet_cellC 3 (.tmp 23) ?_ ?_ (w.heap.size+1) 0 ?_ (.int .i64 x0) _ S0.out Tryz.underlying3 ?_ ?_);(focus rfl);(focus rfl);(focus rfl);(focus rfl);(try simp only[zP]))
   |((with_reducible refine wpQuiet_cellC 3 (.tmp 28) ?_ ?_ (w.heap.size+1) 0 ?_ (.int .i64 x0) _ S0.out Tryz.underlying3 ?_ ?_);(focus rfl);(focus rfl);(focus rfl);(focus rfl);(try simp only[zP]))
   |((with_reducible refine wpQuiet_cellC 3 (.tmp 31) ?_ ?_ g2 0 ?_ (.int .i64 255) _ M0.out Tryz.underlying3 ?_ ?_);(focus rfl);(focus rfl);(focus rfl);(focus rfl);(try simp only[zP]))
   |((with_reducible refine wpQuiet_pure (v:=?_) ?_ (fun w=>?_) ?_);rotate_left;(focus rfl);(focus (go_simp<;>with_reducible rfl));(try simp only[zP])))
  refine wpQuiet_nil ?_;intro wa hca;go_wp2_with fail;go_ret
  exact⟨by rw[hr.out];rfl,(HC4.out.trans HD.out).trans hca⟩
 refine wp_region_chg (by kernel_rfl) (by kernel_rfl) ?_
 repeat (first
  |((with_reducible refine wpQuiet_cellC 3 (.tmp 23) ?_ ?_ (w.heap.size+1) 0 ?_ (.int .i64 x0) _ S0.out Tryz.underlying3 ?_ ?_);(focus rfl);(focus rfl);(focus rfl);(focus rfl);(try simp only[zP]))
  |((with_reducible refine wpQuiet_cellC 3 (.tmp 28) ?_ ?_ (w.heap.size+1) 0 ?_ (.int .i64 x0) _ S0.out Tryz.underlying3 ?_ ?_);(focus rfl);(focus rfl);(focus rfl);(focus rfl);(try simp only[zP]))
  |((with_reducible refine wpQuiet_cellC 3 (.tmp 31) ?_ ?_ g2 0 ?_ (.int .i64 255) _ M0.out Tryz.underlying3 ?_ ?_);(focus rfl);(focus rfl);(focus rfl);(focus rfl);(try simp only[zP]))
  |((with_reducible refine wpQuiet_pure (v:=?_) ?_ (fun w=>?_) ?_);rotate_left;(focus rfl);(focus (go_simp<;>with_reducible rfl));(try simp only[zP])))
 refine wpQuiet_nil ?_;intro wb1 hca;replace HD:=zH (HD.out.trans hca);have N0:Hid (0≤x0∧x0≤255):=zH (by omega);clear n0 b0 S0 M0 hca;go_wp2_with fail;rw[rounds_succ];go_upto_region 6 with fail
 have S1:Hid (∀W,Chg [] wb1 W→W.cell? ⟨w.heap.size+1,1,none⟩=some (.int .i64 x1)):=zH (fun W hc=>HX.out W (HD.out.trans hc) 1);have M1:Hid (∀W,Chg [] wb1 W→W.cell? ⟨g2,1,none⟩=some (.int .i64 1048575)):=zH (fun W hc=>HM.out W (HD.out.trans hc) 1);by_cases n1:x1<0
 ·have hch:ch=false:=by have:=HE.out;rw[this];exact decide_eq_false (by omega)
  have hr:Hid (r=2):=zH (by rw[HC.out,hch];rfl);clear HE HC hch HX HM;refine wp_region_chg (by kernel_rfl) (by kernel_rfl) ?_
  repeat (first
   |((with_reducible refine wpQuiet_cellC 3 (.tmp 23) ?_ ?_ (w.heap.size+1) 1 ?_ (.int .i64 x1) _ S1.out Tryz.underlying3 ?_ ?_);(focus rfl);(focus rfl);(focus rfl);(focus rfl);(try simp only[zP]))
   |((with_reducible refine wpQuiet_skip ?_ ?_);(focus rfl);(try simp only[zP]))
   |((with_reducible refine wpQuiet_pure (v:=?_) ?_ (fun w=>?_) ?_);rotate_left;(focus rfl);(focus (go_simp<;>with_reducible rfl));(try simp only[zP])))
  refine wpQuiet_nil ?_;intro wa hca;go_wp2_with fail;go_ret
  exact⟨by rw[hr.out];rfl,(HC4.out.trans HD.out).trans hca⟩
 by_cases b1:x1>1048575
 ·have hch:ch=false:=by have:=HE.out;rw[this];exact decide_eq_false (by omega)
  have hr:Hid (r=2):=zH (by rw[HC.out,hch];rfl);clear HE HC hch HX HM;refine wp_region_chg (by kernel_rfl) (by kernel_rfl) ?_
  repeat (first
   |((with_reducible refine wpQuiet_cellC 3 (.tmp 23) ?_ ?_ (w.heap.size+1) 1 ?_ (.int .i64 x1) _ S1.out Tryz.underlying3 ?_ ?_);(focus rfl);(focus rfl);(focus rfl);(focus rfl);(try simp only[zP]))
   |((with_reducible refine wpQuiet_cellC 3 (.tmp 28) ?_ ?_ (w.heap.size+1) 1 ?_ (.int .i64 x1) _ S1.out Tryz.underlying3 ?_ ?_);(focus rfl);(focus rfl);(focus rfl);(focus rfl);(try simp only[zP]))
   |((with_reducible refine wpQuiet_cellC 3 (.tmp 31) ?_ ?_ g2 1 ?_ (.int .i64 1048575) _ M1.out Tryz.underlying3 ?_ ?_);(focus rfl);(focus rfl);(focus rfl);(focus rfl);(try simp only[zP]))
   |((with_reducible refine wpQuiet_pure (v:=?_) ?_ (fun w=>?_) ?_);rotate_left;(focus rfl);(focus (go_simp<;>with_reducible rfl));(try simp only[zP])))
  refine wpQuiet_nil ?_;intro wa hca;go_wp2_with fail;go_ret
  exact⟨by rw[hr.out];rfl,(HC4.out.trans HD.out).trans hca⟩
 refine wp_region_chg (by kernel_rfl) (by kernel_rfl) ?_
 repeat (first
  |((with_reducible refine wpQuiet_cellC 3 (.tmp 23) ?_ ?_ (w.heap.size+1) 1 ?_ (.int .i64 x1) _ S1.out Tryz.underlying3 ?_ ?_);(focus rfl);(focus rfl);(focus rfl);(focus rfl);(try simp only[zP]))
  |((with_reducible refine wpQuiet_cellC 3 (.tmp 28) ?_ ?_ (w.heap.size+1) 1 ?_ (.int .i64 x1) _ S1.out Tryz.underlying3 ?_ ?_);(focus rfl);(focus rfl);(focus rfl);(focus rfl);(try simp only[zP]))
  |((with_reducible refine wpQuiet_cellC 3 (.tmp 31) ?_ ?_ g2 1 ?_ (.int .i64 1048575) _ M1.out Tryz.underlying3 ?_ ?_);(focus rfl);(focus rfl);(focus rfl);(focus rfl);(try simp only[zP]))
  |((with_reducible refine wpQuiet_pure (v:=?_) ?_ (fun w=>?_) ?_);rotate_left;(focus rfl);(focus (go_simp<;>with_reducible rfl));(try simp only[zP])))
 refine wpQuiet_nil ?_;intro wb2 hca;replace HD:=zH (HD.out.trans hca);have N1:Hid (0≤x1∧x1≤1048575):=zH (by omega);clear n1 b1 S1 M1 hca;go_wp2_with fail;rw[rounds_succ];go_upto_region 6 with fail
 have S2:Hid (∀W,Chg [] wb2 W→W.cell? ⟨w.heap.size+1,2,none⟩=some (.int .i64 x2)):=zH (fun W hc=>HX.out W (HD.out.trans hc) 2);have M2:Hid (∀W,Chg [] wb2 W→W.cell? ⟨g2,2,none⟩=some (.int .i64 65535)):=zH (fun W hc=>HM.out W (HD.out.trans hc) 2);by_cases n2:x2<0
 ·have hch:ch=false:=by have:=HE.out;rw[this];exact decide_eq_false (by omega)
  have hr:Hid (r=2):=zH (by rw[HC.out,hch];rfl);clear HE HC hch HX HM;refine wp_region_chg (by kernel_rfl) (by kernel_rfl) ?_
  repeat (first
   |((with_reducible refine wpQuiet_cellC 3 (.tmp 23) ?_ ?_ (w.heap.size+1) 2 ?_ (.int .i64 x2) _ S2.out Tryz.underlying3 ?_ ?_);(focus rfl);(focus rfl);(focus rfl);(focus rfl);(try simp only[zP]))
   |((with_reducible refine wpQuiet_skip ?_ ?_);(focus rfl);(try simp only[zP]))
   |((with_reducible refine wpQuiet_pure (v:=?_) ?_ (fun w=>?_) ?_);rotate_left;(focus rfl);(focus (go_simp<;>with_reducible rfl));(try simp only[zP])))
  refine wpQuiet_nil ?_;intro wa hca;go_wp2_with fail;go_ret
  exact⟨by rw[hr.out];rfl,(HC4.out.trans HD.out).trans hca⟩
 by_cases b2:x2>65535
 ·have hch:ch=false:=by have:=HE.out;rw[this];exact decide_eq_false (by omega)
  have hr:Hid (r=2):=zH (by rw[HC.out,hch];rfl);clear HE HC hch HX HM;refine wp_region_chg (by kernel_rfl) (by kernel_rfl) ?_
  repeat (first
   |((with_reducible refine wpQuiet_cellC 3 (.tmp 23) ?_ ?_ (w.heap.size+1) 2 ?_ (.int .i64 x2) _ S2.out Tryz.underlying3 ?_ ?_);(focus rfl);(focus rfl);(focus rfl);(focus rfl);(try simp only[zP]))
   |((with_reducible refine wpQuiet_cellC 3 (.tmp 28) ?_ ?_ (w.heap.size+1) 2 ?_ (.int .i64 x2) _ S2.out Tryz.underlying3 ?_ ?_);(focus rfl);(focus rfl);(focus rfl);(focus rfl);(try simp only[zP]))
   |((with_reducible refine wpQuiet_cellC 3 (.tmp 31) ?_ ?_ g2 2 ?_ (.int .i64 65535) _ M2.out Tryz.underlying3 ?_ ?_);(focus rfl);(focus rfl);(focus rfl);(focus rfl);(try simp only[zP]))
   |((with_reducible refine wpQuiet_pure (v:=?_) ?_ (fun w=>?_) ?_);rotate_left;(focus rfl);(focus (go_simp<;>with_reducible rfl));(try simp only[zP])))
  refine wpQuiet_nil ?_;intro wa hca;go_wp2_with fail;go_ret
  exact⟨by rw[hr.out];rfl,(HC4.out.trans HD.out).trans hca⟩
 refine wp_region_chg (by kernel_rfl) (by kernel_rfl) ?_
 repeat (first
  |((with_reducible refine wpQuiet_cellC 3 (.tmp 23) ?_ ?_ (w.heap.size+1) 2 ?_ (.int .i64 x2) _ S2.out Tryz.underlying3 ?_ ?_);(focus rfl);(focus rfl);(focus rfl);(focus rfl);(try simp only[zP]))
  |((with_reducible refine wpQuiet_cellC 3 (.tmp 28) ?_ ?_ (w.heap.size+1) 2 ?_ (.int .i64 x2) _ S2.out Tryz.underlying3 ?_ ?_);(focus rfl);(focus rfl);(focus rfl);(focus rfl);(try simp only[zP]))
  |((with_reducible refine wpQuiet_cellC 3 (.tmp 31) ?_ ?_ g2 2 ?_ (.int .i64 65535) _ M2.out Tryz.underlying3 ?_ ?_);(focus rfl);(focus rfl);(focus rfl);(focus rfl);(try simp only[zP]))
  |((with_reducible refine wpQuiet_pure (v:=?_) ?_ (fun w=>?_) ?_);rotate_left;(focus rfl);(focus (go_simp<;>with_reducible rfl));(try simp only[zP])))
 refine wpQuiet_nil ?_;intro wb3 hca;replace HD:=zH (HD.out.trans hca);have N2:Hid (0≤x2∧x2≤65535):=zH (by omega);clear n2 b2 S2 M2 hca;go_wp2_with fail;rw[rounds_succ];go_upto_region 6 with fail
 have S3:Hid (∀W,Chg [] wb3 W→W.cell? ⟨w.heap.size+1,3,none⟩=some (.int .i64 x3)):=zH (fun W hc=>HX.out W (HD.out.trans hc) 3);have M3:Hid (∀W,Chg [] wb3 W→W.cell? ⟨g2,3,none⟩=some (.int .i64 255)):=zH (fun W hc=>HM.out W (HD.out.trans hc) 3);by_cases n3:x3<0
 ·have hch:ch=false:=by have:=HE.out;rw[this];exact decide_eq_false (by omega)
  have hr:Hid (r=2):=zH (by rw[HC.out,hch];rfl);clear HE HC hch HX HM;refine wp_region_chg (by kernel_rfl) (by kernel_rfl) ?_
  repeat (first
   |((with_reducible refine wpQuiet_cellC 3 (.tmp 23) ?_ ?_ (w.heap.size+1) 3 ?_ (.int .i64 x3) _ S3.out Tryz.underlying3 ?_ ?_);(focus rfl);(focus rfl);(focus rfl);(focus rfl);(try simp only[zP]))
   |((with_reducible refine wpQuiet_skip ?_ ?_);(focus rfl);(try simp only[zP]))
   |((with_reducible refine wpQuiet_pure (v:=?_) ?_ (fun w=>?_) ?_);rotate_left;(focus rfl);(focus (go_simp<;>with_reducible rfl));(try simp only[zP])))
  refine wpQuiet_nil ?_;intro wa hca;go_wp2_with fail;go_ret
  exact⟨by rw[hr.out];rfl,(HC4.out.trans HD.out).trans hca⟩
 by_cases b3:x3>255
 ·have hch:ch=false:=by have:=HE.out;rw[this];exact decide_eq_false (by omega)
  have hr:Hid (r=2):=zH (by rw[HC.out,hch];rfl);clear HE HC hch HX HM;refine wp_region_chg (by kernel_rfl) (by kernel_rfl) ?_
  repeat (first
   |((with_reducible refine wpQuiet_cellC 3 (.tmp 23) ?_ ?_ (w.heap.size+1) 3 ?_ (.int .i64 x3) _ S3.out Tryz.underlying3 ?_ ?_);(focus rfl);(focus rfl);(focus rfl);(focus rfl);(try simp only[zP]))
   |((with_reducible refine wpQuiet_cellC 3 (.tmp 28) ?_ ?_ (w.heap.size+1) 3 ?_ (.int .i64 x3) _ S3.out Tryz.underlying3 ?_ ?_);(focus rfl);(focus rfl);(focus rfl);(focus rfl);(try simp only[zP]))
   |((with_reducible refine wpQuiet_cellC 3 (.tmp 31) ?_ ?_ g2 3 ?_ (.int .i64 255) _ M3.out Tryz.underlying3 ?_ ?_);(focus rfl);(focus rfl);(focus rfl);(focus rfl);(try simp only[zP]))
   |((with_reducible refine wpQuiet_pure (v:=?_) ?_ (fun w=>?_) ?_);rotate_left;(focus rfl);(focus (go_simp<;>with_reducible rfl));(try simp only[zP])))
  refine wpQuiet_nil ?_;intro wa hca;go_wp2_with fail;go_ret
  exact⟨by rw[hr.out];rfl,(HC4.out.trans HD.out).trans hca⟩
 refine wp_region_chg (by kernel_rfl) (by kernel_rfl) ?_
 repeat (first
  |((with_reducible refine wpQuiet_cellC 3 (.tmp 23) ?_ ?_ (w.heap.size+1) 3 ?_ (.int .i64 x3) _ S3.out Tryz.underlying3 ?_ ?_);(focus rfl);(focus rfl);(focus rfl);(focus rfl);(try simp only[zP]))
  |((with_reducible refine wpQuiet_cellC 3 (.tmp 28) ?_ ?_ (w.heap.size+1) 3 ?_ (.int .i64 x3) _ S3.out Tryz.underlying3 ?_ ?_);(focus rfl);(focus rfl);(focus rfl);(focus rfl);(try simp only[zP]))
  |((with_reducible refine wpQuiet_cellC 3 (.tmp 31) ?_ ?_ g2 3 ?_ (.int .i64 255) _ M3.out Tryz.underlying3 ?_ ?_);(focus rfl);(focus rfl);(focus rfl);(focus rfl);(try simp only[zP]))
  |((with_reducible refine wpQuiet_pure (v:=?_) ?_ (fun w=>?_) ?_);rotate_left;(focus rfl);(focus (go_simp<;>with_reducible rfl));(try simp only[zP])))
 refine wpQuiet_nil ?_;intro wb4 hca;replace HD:=zH (HD.out.trans hca);have N3:Hid (0≤x3∧x3≤255):=zH (by omega);clear n3 b3 S3 M3 hca;go_wp2_with fail;rw[rounds_succ];go_upto_region 6 with fail
 have S4:Hid (∀W,Chg [] wb4 W→W.cell? ⟨w.heap.size+1,4,none⟩=some (.int .i64 x4)):=zH (fun W hc=>HX.out W (HD.out.trans hc) 4);have M4:Hid (∀W,Chg [] wb4 W→W.cell? ⟨g2,4,none⟩=some (.int .i64 255)):=zH (fun W hc=>HM.out W (HD.out.trans hc) 4);by_cases n4:x4<0
 ·have hch:ch=false:=by have:=HE.out;rw[this];exact decide_eq_false (by omega)
  have hr:Hid (r=2):=zH (by rw[HC.out,hch];rfl);clear HE HC hch HX HM;refine wp_region_chg (by kernel_rfl) (by kernel_rfl) ?_
  repeat (first
   |((with_reducible refine wpQuiet_cellC 3 (.tmp 23) ?_ ?_ (w.heap.size+1) 4 ?_ (.int .i64 x4) _ S4.out Tryz.underlying3 ?_ ?_);(focus rfl);(focus rfl);(focus rfl);(focus rfl);(try simp only[zP]))
   |((with_reducible refine wpQuiet_skip ?_ ?_);(focus rfl);(try simp only[zP]))
   |((with_reducible refine wpQuiet_pure (v:=?_) ?_ (fun w=>?_) ?_);rotate_left;(focus rfl);(focus (go_simp<;>with_reducible rfl));(try simp only[zP])))
  refine wpQuiet_nil ?_;intro wa hca;go_wp2_with fail;go_ret
  exact⟨by rw[hr.out];rfl,(HC4.out.trans HD.out).trans hca⟩
 by_cases b4:x4>255
 ·have hch:ch=false:=by have:=HE.out;rw[this];exact decide_eq_false (by omega)
  have hr:Hid (r=2):=zH (by rw[HC.out,hch];rfl);clear HE HC hch HX HM;refine wp_region_chg (by kernel_rfl) (by kernel_rfl) ?_
  repeat (first
   |((with_reducible refine wpQuiet_cellC 3 (.tmp 23) ?_ ?_ (w.heap.size+1) 4 ?_ (.int .i64 x4) _ S4.out Tryz.underlying3 ?_ ?_);(focus rfl);(focus rfl);(focus rfl);(focus rfl);(try simp only[zP]))
   |((with_reducible refine wpQuiet_cellC 3 (.tmp 28) ?_ ?_ (w.heap.size+1) 4 ?_ (.int .i64 x4) _ S4.out Tryz.underlying3 ?_ ?_);(focus rfl);(focus rfl);(focus rfl);(focus rfl);(try simp only[zP]))
   |((with_reducible refine wpQuiet_cellC 3 (.tmp 31) ?_ ?_ g2 4 ?_ (.int .i64 255) _ M4.out Tryz.underlying3 ?_ ?_);(focus rfl);(focus rfl);(focus rfl);(focus rfl);(try simp only[zP]))
   |((with_reducible refine wpQuiet_pure (v:=?_) ?_ (fun w=>?_) ?_);rotate_left;(focus rfl);(focus (go_simp<;>with_reducible rfl));(try simp only[zP])))
  refine wpQuiet_nil ?_;intro wa hca;go_wp2_with fail;go_ret
  exact⟨by rw[hr.out];rfl,(HC4.out.trans HD.out).trans hca⟩
 refine wp_region_chg (by kernel_rfl) (by kernel_rfl) ?_
 repeat (first
  |((with_reducible refine wpQuiet_cellC 3 (.tmp 23) ?_ ?_ (w.heap.size+1) 4 ?_ (.int .i64 x4) _ S4.out Tryz.underlying3 ?_ ?_);(focus rfl);(focus rfl);(focus rfl);(focus rfl);(try simp only[zP]))
  |((with_reducible refine wpQuiet_cellC 3 (.tmp 28) ?_ ?_ (w.heap.size+1) 4 ?_ (.int .i64 x4) _ S4.out Tryz.underlying3 ?_ ?_);(focus rfl);(focus rfl);(focus rfl);(focus rfl);(try simp only[zP]))
  |((with_reducible refine wpQuiet_cellC 3 (.tmp 31) ?_ ?_ g2 4 ?_ (.int .i64 255) _ M4.out Tryz.underlying3 ?_ ?_);(focus rfl);(focus rfl);(focus rfl);(focus rfl);(try simp only[zP]))
  |((with_reducible refine wpQuiet_pure (v:=?_) ?_ (fun w=>?_) ?_);rotate_left;(focus rfl);(focus (go_simp<;>with_reducible rfl));(try simp only[zP])))
 refine wpQuiet_nil ?_;intro wb5 hca;replace HD:=zH (HD.out.trans hca);have N4:Hid (0≤x4∧x4≤255):=zH (by omega);clear n4 b4 S4 M4 hca;go_wp2_with fail;rw[rounds_succ]
 have hch:ch=true:=by have:=HE.out;rw[this];exact decide_eq_true ⟨N0.out.1,N0.out.2,N1.out.1,N1.out.2,N2.out.1,N2.out.2,N3.out.1,N3.out.2,N4.out.1,N4.out.2⟩
 have hr:Hid (r=0):=zH (by rw[HC.out,hch];rfl);clear HE HC hch HX HM N0 N1 N2 N3 N4;go_wp2_with fail;go_ret
 exact⟨by rw[hr.out];rfl,HC4.out.trans HD.out⟩
end Go.Proofs.YtgbndaiifbogmaaGreat
