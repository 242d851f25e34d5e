/-
  Small laws and walks on the way to LearnReads: Ag3, Qc, Qt, Qr, Qe. Conditions: each theorem names its own.
-/
import Derived.Test.YtgbndaiifbogmaaGreatY15
import Derived.Test.YtgbndaiifbogmaaGreatY16
import Derived.Test.YtgbndaiifbogmaaGreatY04
import Derived.Test.YtgbndaiifbogmaaGreatY06
import Derived.Lib.AppendZeros
set_option linter.unusedVariables false
set_option linter.unusedSimpArgs false
set_option maxRecDepth 100000
set_option maxHeartbeats 8000000
namespace Go.Proofs.YtgbndaiifbogmaaGreat
open Go.RowKit Go.Maps
theorem may_new {W w:World} {gj:Nat} {J:Jm} {node load:Int} {tb gp gt K:Nat} {c:TC} {S:List Nat} {pv dr:Array Value} (hj:Blk w gj 154 (arrJ J)) (hg:AgR W w J.ga node load tb gp gt K c S pv dr)
  (hi:J.is=false) (hf:firstF J.p.t.flags=true) (hv:J.v≠0) (hr:(c.l.length:Int)<c.n) :
  Calls Tryz.prog 220 #[.pointer (some ⟨gj,0,none⟩)] w fun e w'=>e=.returned (.int .i64 0)∧Chg [] w w':=by
 obtain⟨m1,m2,m3,q,nn,vs,sq,its,hct,_⟩:=hg.ct.r;have HJ:=zH hj;have HG:=zH hg.blk;have F1:=zH (fun U (hc:Chg [] w U)=>clen_any (hct.chg0 hc));have F2:=zH (fun U (hc:Chg [] w U)=>ccap_any (hct.chg0 hc))
 have SA:Hid (∀U,Chg [] w U→U.cell? ⟨gj,0,none⟩=some (.pointer (some ⟨J.ga,0,none⟩))):=zH (fun U hc=>(HJ.out.chg hc (by simp)).at_ (j_a J));have ST:Hid (∀U,Chg [] w U→U.cell? ⟨J.ga,2,none⟩=some (.pointer (some ⟨tb,0,none⟩))):=zH (fun U hc=>(HG.out.chg hc (by simp)).cell 2)
 have hD:(fun U:World=>Chg [] w U) w.drew:=(Chg.refl [] w).drew;have hnf:¬((c.l.length:Int)≥c.n):=by omega
 have FF:Hid (∀U,Calls Tryz.prog 182 #[.agg (arrTc J.p.t J.p.ov J.p.pv)] U fun e w'=>e=.returned (.bool true)∧Chg [] U w'):=zH (fun U=>by
  have:=first_any J.p.t J.p.ov J.p.pv U;rw[hf]at this;exact this)
 have FO:=zH (fun U (hc:Chg [] w U)=>own_any (HJ.out.chg hc (by simp)) hi);have SI:Hid (∀U,Chg [] w U→U.cell? ⟨gj,161,none⟩=some (.bool false)):=zH (fun U hc=>by rw[←hi];exact (HJ.out.chg hc (by simp)).at_ (j_is J))
 have SV:Hid (∀U,Chg [] w U→U.cell? ⟨gj,162,none⟩=some (.int .i64 J.v)):=zH (fun U hc=>(HJ.out.chg hc (by simp)).at_ (j_v J));have hv0:(J.v==0)=false:=by simpa using hv
 generalize c.l.length=len at *;generalize c.n=cap at *;clear hj hg hct hr hf hv hi;go_enter Tryz.func220,Tryz.ntmps220
 go_upto_region 1 with fail
 refine wp_region_noPanic ?_;refine wp_region_held_drew (S:=fun U:World=>Chg [] w U) (by kernel_rfl) hD (fun _=>?_);refine zU 0 rfl (by go_simp<;>with_reducible rfl) ?_
 try simp only[zP]
 refine zU 1 rfl (by go_simp<;>with_reducible rfl) ?_
 try simp only[zP]
 refine zU 2 rfl (by go_simp<;>with_reducible rfl) ?_
 try simp only[zP]
 refine zT 3 rfl (zc (by rfl) 57 (.tmp 6) rfl gj 0 rfl (.pointer (some ⟨J.ga,0,none⟩)) _ SA.out Tryz.underlying57 rfl) ?_
 try simp only[zP]
 refine zU 4 rfl (by go_simp<;>with_reducible rfl) ?_
 try simp only[zP]
 refine zU 5 rfl (by go_simp<;>with_reducible rfl) ?_
 try simp only[zP]
 refine zT 6 rfl (zc (by rfl) 109 (.tmp 9) rfl J.ga 2 rfl (.pointer (some ⟨tb,0,none⟩)) _ ST.out Tryz.underlying109 rfl) ?_
 try simp only[zP]
 refine zU 8 rfl (by go_simp<;>with_reducible rfl) ?_
 try simp only[zP]
 refine zU 9 rfl (by go_simp<;>with_reducible rfl) ?_
 try simp only[zP]
 refine zU 10 rfl (by go_simp<;>with_reducible rfl) ?_
 try simp only[zP]
 refine zT 11 rfl (zc (by rfl) 57 (.tmp 14) rfl gj 0 rfl (.pointer (some ⟨J.ga,0,none⟩)) _ SA.out Tryz.underlying57 rfl) ?_
 try simp only[zP]
 refine zU 12 rfl (by go_simp<;>with_reducible rfl) ?_
 try simp only[zP]
 refine zU 13 rfl (by go_simp<;>with_reducible rfl) ?_
 try simp only[zP]
 refine zT 14 rfl (zc (by rfl) 109 (.tmp 17) rfl J.ga 2 rfl (.pointer (some ⟨tb,0,none⟩)) _ ST.out Tryz.underlying109 rfl) ?_
 try simp only[zP]
 refine zR 7 rfl (fun K hK=>?_);go_simp
 refine (F1.out _ hD).mono ?_;rintro e w1 ⟨rfl,hw1⟩;have hD1:(fun U:World=>Chg [] w U) w1:=by rw[←hw1];exact hD
 clear hw1;refine zB hK ?_;clear hK K
 try simp only[zP]
 refine zR 15 rfl (fun K hK=>?_);go_simp
 refine (F2.out _ hD1).mono ?_;rintro e w2 ⟨rfl,hw2⟩;have hD2:(fun U:World=>Chg [] w U) w2:=by rw[←hw2];exact hD1
 clear hw2;refine zB hK ?_;clear hK K
 try simp only[zP]
 refine zU 16 rfl (by go_simp<;>with_reducible rfl) ?_
 try simp only[zP]
 refine zU 17 rfl (by go_simp<;>with_reducible rfl) ?_
 try simp only[zP]
 refine wpAnyH_done (by kernel_rfl) ?_ _;refine NoPanic.normal ?_;have HD2:=zH hD2;have hJ2:=HJ.out.chg hD2 (by simp);clear hD hD1 hD2 F1 F2 SA ST HG;go_wp2_with (first
  |(refine wpList_load_part (vs:=arrTc J.p.t J.p.ov J.p.pv) rfl 34 (.tmp 25) rfl hJ2 63 rfl _ Tryz.underlying34 rfl infTc (jp_tcp J) ?_)
  |fail)
 refine (FF.out _).mono ?_;rintro e w3 ⟨rfl,hc3⟩;have HD3:=zH (HD2.out.trans hc3);have k162:=SV.out w3 HD3.out;clear FF hJ2 hc3 HD2;go_upto_region 4 with fail
 have SI3:Hid (∀U,Chg [] w3 U→U.cell? ⟨gj,161,none⟩=some (.bool false)):=zH (fun U hc=>SI.out U (HD3.out.trans hc));clear k162;refine wp_region_chg (by kernel_rfl) (by kernel_rfl) ?_
 repeat (first
  |((with_reducible refine wpQuiet_cellC 4 (.tmp 39) ?_ ?_ gj 161 ?_ (.bool false) _ SI3.out Tryz.underlying4 ?_ ?_);(focus rfl);(focus rfl);(focus rfl);(focus rfl);(try simp only[zP]))
  |((with_reducible refine wpQuiet_skip ?_ ?_);(focus rfl);(try simp only[zP]))
  |((with_reducible refine wpQuiet_pure (v:=?_) ?_ (fun w=>?_) ?_);rotate_left;(focus rfl);(focus (go_simp<;>with_reducible rfl));(try simp only[zP])))
 refine wpQuiet_nil ?_;intro wa hca;have HDa:=zH (HD3.out.trans hca);clear hca SI3 HD3;go_wp2_with fail;refine (FO.out _ HDa.out).mono ?_;rintro e wb ⟨rfl,hwb⟩;have HDb:Hid (Chg [] w wb):=zH (by rw[←hwb];exact HDa.out);clear FO hwb HDa;go_upto_region 8 with fail
 have SI3:Hid (∀U,Chg [] wb U→U.cell? ⟨gj,161,none⟩=some (.bool false)):=zH (fun U hc=>SI.out U (HDb.out.trans hc));refine wp_region_chg (by kernel_rfl) (by kernel_rfl) ?_
 repeat (first
  |((with_reducible refine wpQuiet_cellC 4 (.tmp 61) ?_ ?_ gj 161 ?_ (.bool false) _ SI3.out Tryz.underlying4 ?_ ?_);(focus rfl);(focus rfl);(focus rfl);(focus rfl);(try simp only[zP]))
  |((with_reducible refine wpQuiet_skip ?_ ?_);(focus rfl);(try simp only[zP]))
  |((with_reducible refine wpQuiet_pure (v:=?_) ?_ (fun w=>?_) ?_);rotate_left;(focus rfl);(focus (go_simp<;>with_reducible rfl));(try simp only[zP])))
 refine wpQuiet_nil ?_;intro wc hcc;have HDc:=zH (HDb.out.trans hcc);have k161:=SI.out wc HDc.out;clear hcc SI3 HDb;go_wp2_with fail;go_ret
 exact⟨rfl,HDc.out⟩
@[reducible] def arrEv (kind node:Int) (f:Fl) (a b v:Int):Array Value:=#[.int .i64 kind,.int .i64 node,.int .u8 f.src.a0,.int .u8 f.src.a1,.int .u8 f.src.a2,.int .u8 f.src.a3,.int .u8 f.src.a4,.int .u8 f.src.a5,.int .u8 f.src.a6,.int .u8 f.src.a7,.int .u8 f.src.a8,.int .u8 f.src.a9,.int .u8 f.src.a10,.int .u8 f.src.a11,.int .u8 f.src.a12,.int .u8 f.src.a13,.int .u8 f.src.a14,.int .u8 f.src.a15,.int .i64 f.sport,.int .u8 f.dst.a0,.int .u8 f.dst.a1,.int .u8 f.dst.a2,.int .u8 f.dst.a3,.int .u8 f.dst.a4,.int .u8 f.dst.a5,.int .u8 f.dst.a6,.int .u8 f.dst.a7,.int .u8 f.dst.a8,.int .u8 f.dst.a9,.int .u8 f.dst.a10,.int .u8 f.dst.a11,.int .u8 f.dst.a12,.int .u8 f.dst.a13,.int .u8 f.dst.a14,.int .u8 f.dst.a15,.int .i64 f.dport,.int .i64 a,.int .i64 b,.int .i64 v]
theorem infEv {k n:Int} {f:Fl} {a b v:Int}:(Tryz.prog.info? 88).map (·.size)=some (arrEv k n f a b v).size:=by
 show _=some 39;kernel_rfl
theorem ev_one {k n:Int} {f:Fl} {a b v:Int}:(arrEv k n f a b v).toList.all (·.oneCell')=true:=rfl
theorem done_any {w:World} {gj:Nat} {J:Jm} {node load:Int} {tb gp gt:Nat} (hj:Blk w gj 154 (arrJ J)) (hg:Blk w J.ga 113 (arrAg node load tb gp gt)) (kind about:Int) {A:Option Addr} {n cp:Nat} :
  Calls Tryz.prog 120 #[.pointer (some ⟨gj,0,none⟩),.int .i64 kind,.int .i64 about,.slice A n cp] w fun e w'=>(∃ge,e=.returned (.agg #[.slice A n cp,.slice (some ⟨ge,0,none⟩) 1 1])∧Blk w' ge 88 (arrEv kind node J.f about 0 J.v))∧Chg [] w w':=by
 have hZ:Blk (w.alloc (.cells #[.slice none 0 0,.slice none 0 0] 69)) w.heap.size 69 #[.slice none 0 0,.slice none 0 0]:=Blk.new _ _ _;have hA:=(Chg.refl [] w).alloc (.cells #[.slice none 0 0,.slice none 0 0] 69);have hjl:=hj.lt;have HJ:=zH (hj.chg hA (by simp));have HG:=zH (hg.chg hA (by simp))
 have HA:=zH hA;generalize hw0:w.alloc (.cells #[.slice none 0 0,.slice none 0 0] 69)=w0 at *;have HW0:=zH hw0;have SA:Hid (∀U,Chg [] w0 U→U.cell? ⟨gj,0,none⟩=some (.pointer (some ⟨J.ga,0,none⟩))):=zH (fun U hc=>(HJ.out.chg hc (by simp)).at_ (j_a J))
 have SN:Hid (∀U,Chg [] w0 U→U.cell? ⟨J.ga,0,none⟩=some (.int .i64 node)):=zH (fun U hc=>(HG.out.chg hc (by simp)).cell 0);have SF:Hid (∀U,Chg [] w0 U→U.rangeAt gj 81 (arrF J.f).toList):=zH (fun U hc=>(HJ.out.chg hc (by simp)).part _ (jp_f J))
 have SV:Hid (∀U,Chg [] w0 U→U.cell? ⟨gj,162,none⟩=some (.int .i64 J.v)):=zH (fun U hc=>(HJ.out.chg hc (by simp)).at_ (j_v J));have hD:(fun U:World=>Chg [] w0 U) w0.drew:=(Chg.refl [] w0).drew;have hzl:=hZ.lt;have HZ:=zH hZ;clear hZ hA hw0 hj hg;go_enter Tryz.func120,Tryz.ntmps120
 go_upto_region 1 with fail
 rw[HW0.out];clear HW0;refine wp_region_noPanic ?_;refine wp_region_held_drew (S:=fun U:World=>Chg [] w0 U) (by kernel_rfl) hD (fun _=>?_);refine zU 0 rfl (by go_simp<;>with_reducible rfl) ?_
 try simp only[zP]
 refine zU 1 rfl (by go_simp<;>with_reducible rfl) ?_
 try simp only[zP]
 refine zU 2 rfl (by go_simp<;>with_reducible rfl) ?_
 try simp only[zP]
 refine zU 3 rfl (by go_simp<;>with_reducible rfl) ?_
 try simp only[zP]
 refine zT 4 rfl (zc (by rfl) 57 (.tmp 13) rfl gj 0 rfl (.pointer (some ⟨J.ga,0,none⟩)) _ SA.out Tryz.underlying57 rfl) ?_
 try simp only[zP]
 refine zU 5 rfl (by go_simp<;>with_reducible rfl) ?_
 try simp only[zP]
 refine zU 6 rfl (by go_simp<;>with_reducible rfl) ?_
 try simp only[zP]
 refine zT 7 rfl (zc (by rfl) 3 (.tmp 16) rfl J.ga 0 rfl (.int .i64 node) _ SN.out Tryz.underlying3 rfl) ?_
 try simp only[zP]
 refine zU 8 rfl (by go_simp<;>with_reducible rfl) ?_
 try simp only[zP]
 refine zU 9 rfl (by go_simp<;>with_reducible rfl) ?_
 try simp only[zP]
 refine zU 10 rfl (by go_simp<;>with_reducible rfl) ?_
 try simp only[zP]
 refine zT 11 rfl (yields_row (by rfl) 46 (.tmp 20) rfl gj 81 rfl (arrF J.f) _ SF.out Tryz.underlying46 rfl infF) ?_
 try simp only[zP]
 refine zU 12 rfl (by go_simp<;>with_reducible rfl) ?_
 try simp only[zP]
 refine zU 13 rfl (by go_simp<;>with_reducible rfl) ?_
 try simp only[zP]
 refine zU 14 rfl (by go_simp<;>with_reducible rfl) ?_
 try simp only[zP]
 refine zU 15 rfl (by go_simp<;>with_reducible rfl) ?_
 try simp only[zP]
 refine zT 16 rfl (zc (by rfl) 3 (.tmp 25) rfl gj 162 rfl (.int .i64 J.v) _ SV.out Tryz.underlying3 rfl) ?_
 try simp only[zP]
 refine zU 17 rfl (by go_simp<;>with_reducible rfl) ?_
 try simp only[zP]
 refine zR 18 rfl (fun K hK=>?_);refine step_run (v:=.pointer (some ⟨w0.heap.size,0,none⟩)) (w':=w0.drew.alloc (.cells (arrEv 0 0 eN0.fl 0 0 0) 88)) rfl (by go_simp<;>rfl) ?_;have hD1:(fun U:World=>Chg [] w0 U) (w0.drew.alloc (.cells (arrEv 0 0 eN0.fl 0 0 0) 88)):=hD.alloc _
 have hE:Blk (w0.drew.alloc (.cells (arrEv 0 0 eN0.fl 0 0 0) 88)) w0.heap.size 88 (arrEv 0 0 eN0.fl 0 0 0):=Blk.new w0.drew _ _;refine zB hK ?_;clear hK K
 try simp only[zP]
 refine zR 19 rfl (fun K hK=>?_);refine step_store_blk (vs:=arrEv kind node J.f about 0 J.v) rfl 88 (.tmp 9) (.tmp 27) rfl hE rfl (by kernel_rfl) rfl infEv ev_one ?_;intro w2 hB2 hc2
 have hD2:(fun U:World=>Chg [] w0 U) w2:=Chg.trans' hD1 hc2 (by intro x hx;simp at hx;subst hx;right;exact Nat.le_refl _);refine zB hK ?_;clear hK K
 try simp only[zP]
 refine wpAnyH_done (by kernel_rfl) ?_ _;refine NoPanic.normal ?_;have hZ2:=(HZ.out.chg hD2 (by simp)).alloc (.cells (arrEv kind node J.f about 0 J.v) 88);have hE2:Blk (w2.alloc (.cells (arrEv kind node J.f about 0 J.v) 88)) w2.heap.size 88 (arrEv kind node J.f about 0 J.v):=Blk.new _ _ _
 have HC2:=zH ((HA.out.trans hD2).alloc (.cells (arrEv kind node J.f about 0 J.v) 88));have hlz:w.heap.size<w2.heap.size:=(HZ.out.chg hD2 (by simp)).lt;clear hD2 hD1 hD hE hc2 SA SN SF SV HZ HJ HG HA;go_wp2_with (first
  |(refine zl rfl 88 (.tmp 9) rfl hB2 rfl _ Tryz.underlying88 rfl infEv ?_)
  |(refine zs (vs:=#[.slice A n cp,.slice (some ⟨w2.heap.size,0,none⟩) 1 1]) rfl 69 (.tmp 8) (.tmp 31) rfl rfl hZ2 rfl rfl rfl (by kernel_rfl) rfl ?_;intro w3 hB3 hc3)
  |fail)
 refine bodyPost_ret (results_blk rfl rfl hB3 _ Tryz.underlying69 rfl (by kernel_rfl)) rfl ?_;exact⟨⟨_,rfl,hE2.chg hc3 (by simp;omega)⟩,HC2.out.trans' hc3 (zN (by omega))⟩
end Go.Proofs.YtgbndaiifbogmaaGreat
namespace Go.Proofs.YtgbndaiifbogmaaGreat
open Go.RowKit Go.Maps Go.WideMaps Go.WideShapes
structure wfH (h:Hd):Prop where
 cls:(Lit.int .i64 h.cls).wf=true
 lab:(Lit.int .i64 h.lab).wf=true
 len:(Lit.int .i64 h.len).wf=true
 nxt:(Lit.int .i64 h.nxt).wf=true
 hop:(Lit.int .i64 h.hop).wf=true
 src:okA h.src
 dst:okA h.dst
theorem wf64 {n:Int} (h:-9223372036854775808≤n∧n≤9223372036854775807):(Lit.int .i64 n).wf=true:=by
 simp[Lit.wf,IntKind.min,IntKind.max,IntKind.signed,IntKind.bits];omega
theorem canH.wf {h:Hd} (c:canH h=true) (hs:okA h.src) (hd:okA h.dst):wfH h:=by
 obtain⟨h1,h2,h3,h4,h5⟩:=canH.at c;exact⟨wf64 (by omega),wf64 (by omega),wf64 (by omega),wf64 (by omega),wf64 (by omega),hs,hd⟩
def encHd (h:Hd):List Value:=.int .i64 h.cls :: .int .i64 h.lab :: .int .i64 h.len :: .int .i64 h.nxt :: .int .i64 h.hop::(encA h.src++encA h.dst)
def keyHd (h:Hd):Lit:=.string (keyBytes (.int .i64 h.cls :: .int .i64 h.lab :: .int .i64 h.len :: .int .i64 h.nxt :: .int .i64 h.hop::(litsA h.src++litsA h.dst)))
theorem key_hd {h:Hd} (k:wfH h):keyOf Tryz.prog 26 (.agg (arrH h))=some (keyHd h):=by
 have hcA:Tryz.prog.cellsOf 24=16:=by kernel_rfl
 have hcI:Tryz.prog.cellsOf 3=1:=by kernel_rfl
 have hcF:Tryz.prog.cellsOf 26=37:=by kernel_rfl
 have hkF:Tryz.prog.keyType 26=true:=by kernel_rfl
 obtain⟨d,hd⟩:=typesTwo;unfold keyOf;simp only[Tryz.underlying26];rw[if_pos (by simp[hkF,Value.formed,Tryz.underlying26,hcF]),hd];have e:(Value.agg (arrH h)).cells.toList=encHd h:=rfl;rw[e];unfold Program.keyLits;simp only[Tryz.underlying26];rw[if_pos ⟨by rw[hcF];rfl,by simp⟩]
 have g0:((encHd h).drop 0).take 1=[.int .i64 h.cls]:=rfl;have g1:((encHd h).drop 1).take 1=[.int .i64 h.lab]:=rfl;have g2:((encHd h).drop 2).take 1=[.int .i64 h.len]:=rfl;have g3:((encHd h).drop 3).take 1=[.int .i64 h.nxt]:=rfl;have g4:((encHd h).drop 4).take 1=[.int .i64 h.hop]:=rfl
 have g5:((encHd h).drop 5).take 16=encA h.src:=rfl;have g6:((encHd h).drop 21).take 16=encA h.dst:=rfl;have k0:=keyLits_int (d:=d+1) k.cls;have k1:=keyLits_int (d:=d+1) k.lab;have k2:=keyLits_int (d:=d+1) k.len;have k3:=keyLits_int (d:=d+1) k.nxt;have k4:=keyLits_int (d:=d+1) k.hop
 have k5:=keyLits_ad (d:=d) k.src;have k6:=keyLits_ad (d:=d) k.dst;simp only[List.mapM_cons,List.mapM_nil,hcA,hcI,g0,g1,g2,g3,g4,g5,g6];rw[show d+2=d+1+1 from rfl]at *;rw[k0,k1,k2,k3,k4,k5,k6];simp[keyHd]
theorem lawHd:KeyLaw Tryz.prog 26:=deep_law_laid laidOutV (m:=4) (by omega) (of_decide_eq_true (by kernel_rfl)) (by kernel_rfl) (by kernel_rfl)
theorem hdV_inj {f g:Hd} (h:(Value.agg (arrH f))=.agg (arrH g)):f=g:=by
 obtain⟨_,_,_,_,_,A,B⟩:=f;obtain⟨_,_,_,_,_,C,D⟩:=g;cases A;cases B;cases C;cases D;simpa[arrH,and_assoc]using h
theorem eq_hd (w:World) {f g:Hd} (hf:wfH f) (hg:wfH g):(Op.equalIn 10000 26 (.agg (arrH f)) (.agg (arrH g))).run Tryz.prog w=.ok (decide (f=g)) w:=by
 obtain⟨r,hr,hi⟩:=run_equal_deep w (m:=4) (by omega) (k:=26) (by kernel_rfl) (by kernel_rfl) (key_hd hf) (key_hd hg);have e:r=decide (f=g):=by
  by_cases h:f=g
  ·rw[decide_eq_true h];exact hi.2 (by rw[h])
  ·rw[decide_eq_false h];cases r with
   |false=>rfl
   |true=>exact absurd (hdV_inj (lawHd.inj (key_hd hf) ((hi.1 rfl)▸key_hd hg))) h
 rw[←e];exact hr
def wiS (n m:Int):Int:=min (max n 0) m
theorem within_any (n m:Int) (w:World):Calls Tryz.prog 293 #[.int .i64 n,.int .i64 m] w fun e w'=>e=.returned (.int .i64 (wiS n m))∧w=w':=by
 have HW:Hid (wiS n m=min (max n 0) m):=zH rfl;generalize wiS n m=r at *;go_enter Tryz.func293,Tryz.ntmps293
 go_wp2
 all_goals
  go_ret
  refine⟨?_,rfl⟩;have:=HW.out;simp only[Array.getD_eq_getD_getElem?,List.getElem?_toArray,List.getElem?_cons_succ,List.getElem?_cons_zero,Option.getD_some,Ending.returned.injEq,Value.int.injEq,true_and];omega
@[reducible] def mayH (h:Hd):Hd:=⟨wiS h.cls 255,wiS h.lab 1048575,wiS h.len 65535,wiS h.nxt 255,wiS h.hop 255,h.src,h.dst⟩
theorem mayH_iff (h:Hd):mayH h=h↔canH h=true:=by
 obtain⟨a,b,c,d,e,s,t⟩:=h;unfold canH;simp only[mayH,Hd.mk.injEq,and_true,decide_eq_true_eq,wiS];omega
theorem mayH_wf {h:Hd} (k:wfH h):wfH (mayH h):=by
 have b:∀n m:Int,0≤m→m≤1048575→(Lit.int .i64 (wiS n m)).wf=true:=fun n m h1 h2=>wf64 (by unfold wiS;omega)
 exact⟨b _ _ (by omega) (by omega),b _ _ (by omega) (by omega),b _ _ (by omega) (by omega),b _ _ (by omega) (by omega),b _ _ (by omega) (by omega),k.src,k.dst⟩
def canE (h:Hd):Int:=if canH h=true then 0 else 2
theorem h_cls (h:Hd) (x:Int):(arrH h).setIfInBounds 0 (.int .i64 x)=arrH {h with cls:=x}:=rfl
theorem h_lab (h:Hd) (x:Int):(arrH h).setIfInBounds 1 (.int .i64 x)=arrH {h with lab:=x}:=rfl
theorem h_len (h:Hd) (x:Int):(arrH h).setIfInBounds 2 (.int .i64 x)=arrH {h with len:=x}:=rfl
theorem h_nxt (h:Hd) (x:Int):(arrH h).setIfInBounds 3 (.int .i64 x)=arrH {h with nxt:=x}:=rfl
theorem h_hop (h:Hd) (x:Int):(arrH h).setIfInBounds 4 (.int .i64 x)=arrH {h with hop:=x}:=rfl
theorem scan_any {h:Hd} (k:wfH h) (w:World):Calls Tryz.prog 265 #[.agg (arrH h)] w fun e w'=>e=.returned (.int .i64 (canE h))∧Chg [] w w':=by
 have hA:=((Chg.refl [] w).alloc (.cells (arrH h) 26)).alloc (.cells arrH0 26);have hBw:Blk (w.alloc (.cells (arrH h) 26)) w.heap.size 26 (arrH h):=Blk.new _ _ _;have hB:=hBw.alloc (.cells arrH0 26)
 have hB1:Blk ((w.alloc (.cells (arrH h) 26)).alloc (.cells arrH0 26)) (w.heap.size+1) 26 arrH0:=Blk.new' (by simp);have HA:=zH hA;have HE:=zH (fun W=>eq_hd W (mayH_wf k) k);have HC:Hid (canE h=if canH h=true then 0 else 2):=zH rfl;have HI:=zH (mayH_iff h);generalize canE h=r at *;clear hA
 go_enter Tryz.func265,Tryz.ntmps265
 go_upto_region 2 with (first
  |(refine zl rfl 26 (.tmp 1) rfl hBw rfl _ Tryz.underlying26 rfl infH ?_)
  |(refine zs (vs:=arrH h) rfl 26 (.tmp 3) (.tmp 4) rfl rfl hB1 rfl rfl rfl infH rfl ?_;intro w2 hB2 hc2)
  |fail)
 have hBo:=hB.chg hc2 (by simp);have HC2:=zH (HA.out.trans' hc2 (zN (by omega)));have S:=fun (i:Nat) W (hc:Chg [w.heap.size+1] w2 W)=>(hBo.chg hc (by simp)).cell i
 have S0:=zH (S 0);have S1:=zH (S 1);have S2:=zH (S 2);have S3:=zH (S 3);have S4:=zH (S 4)
 have HBO:=zH hBo;clear hBw hB hB1 hc2 HA S hBo;have hD:Chg [w.heap.size+1] w2 w2.drew:=(Chg.refl _ w2).drew;refine wp_region_held_drew (S:=fun W:World=>Chg [w.heap.size+1] w2 W) (by kernel_rfl) hD (fun _=>?_);refine zU 0 rfl (by go_simp<;>with_reducible rfl) ?_
 try simp only[zP]
 refine zT 1 rfl (zc (by rfl) 3 (.tmp 5) rfl w.heap.size 0 rfl (.int .i64 h.cls) _ S0.out Tryz.underlying3 rfl) ?_
 try simp only[zP]
 refine zU 3 rfl (by go_simp<;>with_reducible rfl) ?_
 try simp only[zP]
 refine zT 4 rfl (zc (by rfl) 3 (.tmp 8) rfl w.heap.size 1 rfl (.int .i64 h.lab) _ S1.out Tryz.underlying3 rfl) ?_
 try simp only[zP]
 refine zR 2 rfl (fun K hK=>?_);go_simp
 refine (within_any _ _ _).mono ?_;rintro e w3 ⟨rfl,rfl⟩;refine zB hK ?_;clear hK K
 try simp only[zP]
 refine zU 6 rfl (by go_simp<;>with_reducible rfl) ?_
 try simp only[zP]
 refine zR 5 rfl (fun K hK=>?_);go_simp
 refine (within_any _ _ _).mono ?_;rintro e w3 ⟨rfl,rfl⟩;refine zB hK ?_;clear hK K
 try simp only[zP]
 refine zR 7 rfl (fun K hK=>?_);refine step_store_cell (v:=.int .i64 (wiS h.cls 255)) rfl 3 (.tmp 11) (.tmp 7) rfl hB2.drew rfl rfl rfl (by show _<37;omega) (by kernel_rfl) rfl ?_;intro w4 hB4 hc4;have hC4:(fun W:World=>Chg [w.heap.size+1] w2 W) w4:=hD.trans hc4;rw[h_cls]at hB4;clear hc4 hB2
 refine zB hK ?_;clear hK K
 try simp only[zP]
 refine zU 8 rfl (by go_simp<;>with_reducible rfl) ?_
 try simp only[zP]
 refine zR 9 rfl (fun K hK=>?_);refine step_store_cell (v:=.int .i64 (wiS h.lab 1048575)) rfl 3 (.tmp 12) (.tmp 10) rfl hB4 rfl rfl rfl (by show _<37;omega) (by kernel_rfl) rfl ?_;intro w5 hB5 hc5;have hC5:(fun W:World=>Chg [w.heap.size+1] w2 W) w5:=hC4.trans hc5;rw[h_lab]at hB5;clear hc5 hB4
 refine zB hK ?_;clear hK K
 try simp only[zP]
 refine wpAnyH_done (by kernel_rfl) ?_ _;clear hC4;go_upto_region 3 with fail
 have hD5:Chg [w.heap.size+1] w2 w5.drew:=hC5.drew;refine wp_region_held_drew (S:=fun W:World=>Chg [w.heap.size+1] w2 W) (by kernel_rfl) hD5 (fun _=>?_);refine zU 0 rfl (by go_simp<;>with_reducible rfl) ?_
 try simp only[zP]
 refine zT 1 rfl (zc (by rfl) 3 (.tmp 13) rfl w.heap.size 2 rfl (.int .i64 h.len) _ S2.out Tryz.underlying3 rfl) ?_
 try simp only[zP]
 refine zU 3 rfl (by go_simp<;>with_reducible rfl) ?_
 try simp only[zP]
 refine zT 4 rfl (zc (by rfl) 3 (.tmp 16) rfl w.heap.size 3 rfl (.int .i64 h.nxt) _ S3.out Tryz.underlying3 rfl) ?_
 try simp only[zP]
 refine zU 6 rfl (by go_simp<;>with_reducible rfl) ?_
 try simp only[zP]
 refine zT 7 rfl (zc (by rfl) 3 (.tmp 19) rfl w.heap.size 4 rfl (.int .i64 h.hop) _ S4.out Tryz.underlying3 rfl) ?_
 try simp only[zP]
 refine zR 2 rfl (fun K hK=>?_);go_simp
 refine (within_any _ _ _).mono ?_;rintro e w3 ⟨rfl,rfl⟩;refine zB hK ?_;clear hK K
 try simp only[zP]
 refine zU 9 rfl (by go_simp<;>with_reducible rfl) ?_
 try simp only[zP]
 refine zR 5 rfl (fun K hK=>?_);go_simp
 refine (within_any _ _ _).mono ?_;rintro e w3 ⟨rfl,rfl⟩;refine zB hK ?_;clear hK K
 try simp only[zP]
 refine zR 8 rfl (fun K hK=>?_);go_simp
 refine (within_any _ _ _).mono ?_;rintro e w3 ⟨rfl,rfl⟩;refine zB hK ?_;clear hK K
 try simp only[zP]
 refine zR 10 rfl (fun K hK=>?_);refine step_store_cell (v:=.int .i64 (wiS h.len 65535)) rfl 3 (.tmp 22) (.tmp 15) rfl hB5.drew rfl rfl rfl (by show _<37;omega) (by kernel_rfl) rfl ?_;intro w6 hB6 hc6;have hC6:(fun W:World=>Chg [w.heap.size+1] w2 W) w6:=hD5.trans hc6;rw[h_len]at hB6;clear hc6 hB5
 refine zB hK ?_;clear hK K
 try simp only[zP]
 refine zU 11 rfl (by go_simp<;>with_reducible rfl) ?_
 try simp only[zP]
 refine zR 12 rfl (fun K hK=>?_);refine step_store_cell (v:=.int .i64 (wiS h.nxt 255)) rfl 3 (.tmp 23) (.tmp 18) rfl hB6 rfl rfl rfl (by show _<37;omega) (by kernel_rfl) rfl ?_;intro w7 hB7 hc7;have hC7:(fun W:World=>Chg [w.heap.size+1] w2 W) w7:=hC6.trans hc7;rw[h_nxt]at hB7;clear hc7 hB6
 refine zB hK ?_;clear hK K
 try simp only[zP]
 refine zU 13 rfl (by go_simp<;>with_reducible rfl) ?_
 try simp only[zP]
 refine zR 14 rfl (fun K hK=>?_);refine step_store_cell (v:=.int .i64 (wiS h.hop 255)) rfl 3 (.tmp 24) (.tmp 21) rfl hB7 rfl rfl rfl (by show _<37;omega) (by kernel_rfl) rfl ?_;intro w8 hB8 hc8;have hC8:(fun W:World=>Chg [w.heap.size+1] w2 W) w8:=hC7.trans hc8;rw[h_hop]at hB8;clear hc8 hB7
 refine zB hK ?_;clear hK K
 try simp only[zP]
 refine wpAnyH_done (by kernel_rfl) ?_ _;have hB9:Blk w8 (w.heap.size+1) 26 (arrH (mayH h)):=hB8;have hBo:=HBO.out.chg hC8 (by simp);have HC9:=zH (HC2.out.trans' hC8 (zN (by omega)));have he:=HE.out;clear hC5 hC6 hC7 hC8 hD hD5 HBO HC2 S0 S1 S2 S3 S4 hB8 HE;by_cases hc:canH h=true
 ·have hm:=HI.out.2 hc;rw[decide_eq_true hm]at he;have hr:=HC.out;rw[if_pos hc]at hr;replace hr:=zH hr;clear HC HI hm hc;go_wp2_with (first
   |(refine zl rfl 26 (.tmp 3) rfl hB9 rfl _ Tryz.underlying26 rfl infH ?_)
   |(refine zl rfl 26 (.tmp 1) rfl hBo rfl _ Tryz.underlying26 rfl infH ?_)
   |fail)
  go_ret
  exact⟨by rw[hr.out];rfl,HC9.out⟩
 ·have hm:¬mayH h=h:=fun e=>hc (HI.out.1 e)
  rw[decide_eq_false hm]at he;have hr:=HC.out;rw[if_neg hc]at hr;replace hr:=zH hr;clear HC HI hm hc;go_wp2_with (first
   |(refine zl rfl 26 (.tmp 3) rfl hB9 rfl _ Tryz.underlying26 rfl infH ?_)
   |(refine zl rfl 26 (.tmp 1) rfl hBo rfl _ Tryz.underlying26 rfl infH ?_)
   |fail)
  go_ret
  exact⟨by rw[hr.out];rfl,HC9.out⟩
end Go.Proofs.YtgbndaiifbogmaaGreat
namespace Go.Proofs.YtgbndaiifbogmaaGreat
open Go.RowKit Go.Maps
theorem u8w_eq (n:Int):IntKind.u8.wrap n=n%256:=by simp[IntKind.wrap,IntKind.signed,IntKind.bits]
theorem mkA_sid {n d r:Int} (h1:0≤n∧n≤65535) (h2:0≤d∧d≤255) (h3:0≤r∧r≤4294967295) :
  Vs.mkA (n/256) (n%256) d (r/16777216) (r/65536%256) (r/256%256) (r%256)=sidA n d r:=by
 have e1:((loB (n/256):Nat):Int)=n/256:=loB_small (by omega);have e2:((loB n:Nat):Int)=n%256:=by rw[←loB_eq,u8w_eq]
 have e3:((loB d:Nat):Int)=d:=loB_small h2;have e4:((r.toNat/16777216%256:Nat):Int)=r/16777216:=by omega
 have e5:((r.toNat/65536%256:Nat):Int)=r/65536%256:=by omega
 have e6:((r.toNat/256%256:Nat):Int)=r/256%256:=by omega
 have e7:((r.toNat%256:Nat):Int)=r%256:=by omega
 unfold sidA;rw[e1,e2,e3,e4,e5,e6,e7]
theorem smake_any {n d r:Int} (h1:0≤n∧n≤65535) (h2:0≤d∧d≤255) (h3:0≤r∧r≤4294967295) (w:World) :
  Calls Tryz.prog 105 #[.agg #[.int .i64 n,.int .i64 d,.int .u32 r]] w fun e w'=>e=.returned (.tuple #[.agg (arrA (sidA n d r)),.int .i64 0])∧Chg [] w w':=by
 have:=Vs.make_any (node:=n) (d:=d) (arg:=r) (p:=n/256) (q:=n%256) (x:=r/16777216) (y:=r/65536%256) (z:=r/256%256) (u:=r%256) w (by omega) (by omega) (by omega) (by omega) (by omega) (by omega) (by omega) (by omega) (by omega) (by omega) (by omega) (by omega) (by omega) (by omega) (by omega) (by omega)
 rw[mkA_sid h1 h2 h3]at this;exact this
def spV:Option (Int×Int×Int)→Value
 |some (n,d,r)=>.tuple #[.agg #[.int .i64 n,.int .i64 d,.int .u32 r],.bool true]
 |none=>.tuple #[.agg #[.int .i64 0,.int .i64 0,.int .u32 0],.bool false]
theorem splitV_sp (A:Ad):Vs.splitV A=spV (splitA A):=by
 have e:Vs.ownA A=decide (A.a0=253∧A.a1=108∧A.a2=0∧A.a3=98∧A.a4=0∧A.a5=0∧A.a6=0∧A.a7=0∧A.a11=0):=by
  unfold Vs.ownA;congr 1;obtain⟨a0,a1,a2,a3,a4,a5,a6,a7,a8,a9,a10,a11,a12,a13,a14,a15⟩:=A;simp only[Vs.likeA,Vs.mkA,Ad.mk.injEq,eq_iff_iff];constructor
  ·rintro⟨h0,h1,h2,h3,h4,h5,h6,h7,-,-,-,h11,-⟩;exact⟨h0.symm,h1.symm,h2.symm,h3.symm,h4.symm,h5.symm,h6.symm,h7.symm,h11.symm⟩
  ·rintro⟨h0,h1,h2,h3,h4,h5,h6,h7,h11⟩;exact⟨h0.symm,h1.symm,h2.symm,h3.symm,h4.symm,h5.symm,h6.symm,h7.symm,trivial,trivial,trivial,h11.symm,trivial,trivial,trivial,trivial⟩
 unfold Vs.splitV splitA;rw[e];by_cases h:A.a0=253∧A.a1=108∧A.a2=0∧A.a3=98∧A.a4=0∧A.a5=0∧A.a6=0∧A.a7=0∧A.a11=0
 ·rw[decide_eq_true h,if_pos rfl,if_pos h];simp[spV,Vs.sidV,Vs.argA,Vs.val32]
 ·rw[decide_eq_false h,if_neg (by simp),if_neg h];rfl
theorem ssplit_any {A:Ad} (hA:okA A) (w:World):Calls Tryz.prog 47 #[.agg (arrA A)] w fun e w'=>e=.returned (spV (splitA A))∧Chg [] w w':=by
 rw[←splitV_sp];exact Vs.split_any hA w
@[reducible] def flP (p:Pm):Fl:=⟨p.h.src,p.t.sport,p.f,p.t.dport⟩
def ofV (p:Pm):Value:=if p.k=6 then .tuple #[.agg (arrF (flP p)),.bool true] else .tuple #[.agg (arrF fl0),.bool false]
theorem fof_any (p:Pm) (w:World):Calls Tryz.prog 53 #[.agg (arrPk p)] w fun e w'=>e=.returned (ofV p)∧Chg [] w w':=by
 have hA:=((Chg.refl [] w).alloc (.cells (arrPk p) 38)).alloc (.cells (arrF fl0) 46);have hB:Blk ((w.alloc (.cells (arrPk p) 38)).alloc (.cells (arrF fl0) 46)) w.heap.size 38 (arrPk p):=(Blk.new _ _ _).alloc _
 have hBn:Blk ((w.alloc (.cells (arrPk p) 38)).alloc (.cells (arrF fl0) 46)) (w.heap.size+1) 46 (arrF fl0):=Blk.new' (by simp);have HA:=zH hA;have c60:((w.alloc (.cells (arrPk p) 38)).alloc (.cells (arrF fl0) 46)).cell? ⟨w.heap.size,60,none⟩=some (.int .i64 p.k):=hB.cell 60
 have c61:((w.alloc (.cells (arrPk p) 38)).alloc (.cells (arrF fl0) 46)).cell? ⟨w.heap.size,61,none⟩=some (.int .i64 p.t.sport):=hB.cell 61;have c62:((w.alloc (.cells (arrPk p) 38)).alloc (.cells (arrF fl0) 46)).cell? ⟨w.heap.size,62,none⟩=some (.int .i64 p.t.dport):=hB.cell 62;clear hA
 by_cases hk:p.k=6
 ·have HI:Hid (ofV p=.tuple #[.agg (arrF (flP p)),.bool true]):=zH (if_pos hk);have hkI:(p.k !=6)=false:=by rw[hk];rfl
  clear hk;go_enter Tryz.func53,Tryz.ntmps53
  go_wp2_with (first
   |(refine wpList_load_part (vs:=arrA p.h.src) rfl 24 (.tmp 9) rfl hB 5 rfl _ Tryz.underlying24 rfl infAd (pk_src p) ?_)
   |(refine wpList_load_part (vs:=arrA p.f) rfl 24 (.tmp 14) rfl hB 44 rfl _ Tryz.underlying24 rfl infAd (pk_f p) ?_)
   |(refine zs (vs:=arrF (flP p)) rfl 46 (.tmp 2) (.tmp 19) rfl rfl hBn rfl rfl rfl infF rfl ?_;intro w2 hB2 hc2)
   |fail)
  refine bodyPost_ret (zr rfl rfl hB2 _ Tryz.underlying46 rfl infF) rfl ?_;exact⟨by rw[HI.out];rfl,HA.out.trans' hc2 (zN (by omega))⟩
 ·have HI:Hid (ofV p=.tuple #[.agg (arrF fl0),.bool false]):=zH (if_neg hk);have hkI:(p.k !=6)=true:=by simpa using hk
  clear hk;go_enter Tryz.func53,Tryz.ntmps53
  go_wp2_with (first
   |(refine zs (vs:=arrF fl0) rfl 46 (.tmp 2) (.tmp 7) rfl rfl hBn rfl rfl rfl infF rfl ?_;intro w2 hB2 hc2)
   |fail)
  refine bodyPost_ret (zr rfl rfl hB2 _ Tryz.underlying46 rfl infF) rfl ?_;exact⟨by rw[HI.out];rfl,HA.out.trans' hc2 (zN (by omega))⟩
@[reducible] def backF (f:Fl):Fl:=⟨f.dst,f.dport,f.src,f.sport⟩
theorem bf_src (f:Fl):((arrF f).toList.drop 0).take (arrA f.src).toList.length=(arrA f.src).toList:=by kernel_rfl
theorem bf_dst (f:Fl):((arrF f).toList.drop 17).take (arrA f.dst).toList.length=(arrA f.dst).toList:=by kernel_rfl
theorem fback_any (f:Fl) (w:World):Calls Tryz.prog 54 #[.agg (arrF f)] w fun e w'=>e=.returned (.agg (arrF (backF f)))∧Chg [] w w':=by
 have hA:=((Chg.refl [] w).alloc (.cells (arrF f) 46)).alloc (.cells (arrF fl0) 46);have hB:Blk ((w.alloc (.cells (arrF f) 46)).alloc (.cells (arrF fl0) 46)) w.heap.size 46 (arrF f):=(Blk.new _ _ _).alloc _
 have hBn:Blk ((w.alloc (.cells (arrF f) 46)).alloc (.cells (arrF fl0) 46)) (w.heap.size+1) 46 (arrF fl0):=Blk.new' (by simp);have HA:=zH hA;have c16:((w.alloc (.cells (arrF f) 46)).alloc (.cells (arrF fl0) 46)).cell? ⟨w.heap.size,16,none⟩=some (.int .i64 f.sport):=hB.cell 16
 have c33:((w.alloc (.cells (arrF f) 46)).alloc (.cells (arrF fl0) 46)).cell? ⟨w.heap.size,33,none⟩=some (.int .i64 f.dport):=hB.cell 33;clear hA;go_enter Tryz.func54,Tryz.ntmps54
 go_wp2_with (first
  |(refine wpList_load_part (vs:=arrA f.dst) rfl 24 (.tmp 3) rfl hB 17 rfl _ Tryz.underlying24 rfl infAd (bf_dst f) ?_)
  |(refine wpList_load_part (vs:=arrA f.src) rfl 24 (.tmp 7) rfl hB 0 rfl _ Tryz.underlying24 rfl infAd (bf_src f) ?_)
  |(refine zs (vs:=arrF (backF f)) rfl 46 (.tmp 2) (.tmp 11) rfl rfl hBn rfl rfl rfl infF rfl ?_;intro w2 hB2 hc2)
  |fail)
 refine bodyPost_ret (results_blk rfl rfl hB2 _ Tryz.underlying46 rfl infF) rfl ?_;exact⟨rfl,HA.out.trans' hc2 (zN (by omega))⟩
end Go.Proofs.YtgbndaiifbogmaaGreat
namespace Go.Proofs.YtgbndaiifbogmaaGreat.Vs
open Go.RowKit Go.Maps
theorem ru16 {g k:Nat} {x y:Int} {w:World} (hk:k≤14) (hx:w.cell? ⟨g,k,none⟩=some (.int .u8 x)) (hy:w.cell? ⟨g,k+1,none⟩=some (.int .u8 y)) (hx0:0≤x∧x≤255) (hy0:0≤y∧y≤255) :
  Calls Tryz.prog 160 #[.slice (some ⟨g,0,none⟩) 16 16,.int .i64 k] w fun e w'=>e=.returned (.tuple #[.int .i64 (x*256+y),.bool true])∧∃q,w'=w.drewN q:=by
 obtain⟨a1,a2⟩:=hx0;obtain⟨b1,b2⟩:=hy0;have h0:(0:Int)≤(k:Int):=by omega
 have h1:(k:Int)<15:=by omega
 have h2:(k:Int)<16:=by omega
 have h3:(k:Int)+1<16:=by omega
 have h4:(0:Int)≤(k:Int)+1:=by omega
 have h5:((k:Int)+1).toNat=k+1:=by omega
 have w1:IntKind.i64.wrap ((k:Int)+1)=(k:Int)+1:=by rw[IntKind.wrap_i64];omega
 have w2:IntKind.i64.wrap (x*256)=x*256:=by rw[IntKind.wrap_i64];omega
 have w3:IntKind.i64.wrap (x*256+y)=x*256+y:=by rw[IntKind.wrap_i64];omega
 clear hk;go_enter Tryz.func160,Tryz.ntmps160
 go_wp2_with fail;go_quiet (fail)
 go_wp2_with fail;go_ret2
 exact⟨rfl,_,rfl⟩
theorem ru32 {g:Nat} {x y z u:Int} {w:World} (h0:w.cell? ⟨g,12,none⟩=some (.int .u8 x)) (h1:w.cell? ⟨g,13,none⟩=some (.int .u8 y)) (h2:w.cell? ⟨g,14,none⟩=some (.int .u8 z)) (h3:w.cell? ⟨g,15,none⟩=some (.int .u8 u))
  (hx:0≤x∧x≤255) (hy:0≤y∧y≤255) (hz:0≤z∧z≤255) (hu:0≤u∧u≤255) :
  Calls Tryz.prog 102 #[.slice (some ⟨g,0,none⟩) 16 16,.int .i64 12] w fun e w'=>e=.returned (.tuple #[.int .u32 (val32 [x,y,z,u]),.bool true])∧∃q,w'=w.drewN q:=by
 have F1:=zH (ru16 (k:=12) (by omega) h0 h1 hx hy);have F2:=zH (fun q=>ru16 (k:=14) (w:=w.drewN q) (by omega) (((Chg.refl [] w).drewN q).cell h2 (by simp)) (((Chg.refl [] w).drewN q).cell h3 (by simp)) hz hu);have w1:IntKind.u32.wrap (x*256+y)=x*256+y:=by rw[IntKind.wrap_u32'];omega
 have w2:IntKind.u32.wrap ((x*256+y)*65536)=(x*256+y)*65536:=by rw[IntKind.wrap_u32'];omega
 have w3:IntKind.u32.wrap (z*256+u)=z*256+u:=by rw[IntKind.wrap_u32'];omega
 have w4:IntKind.u32.wrap ((x*256+y)*65536+(z*256+u))=(x*256+y)*65536+(z*256+u):=by rw[IntKind.wrap_u32'];omega
 have HV:Hid (val32 [x,y,z,u]=(x*256+y)*65536+(z*256+u)):=zH (by simp[val32];omega);clear hx hy hz hu h0 h1 h2 h3;go_enter Tryz.func102,Tryz.ntmps102
 go_wp2_with fail;refine F1.out.mono ?_;rintro e w1 ⟨rfl,q,rfl⟩;go_wp2_with fail;refine (F2.out _).mono ?_;rintro e w1 ⟨rfl,q2,rfl⟩;go_wp2_with fail;go_ret2
 rw[HV.out];exact⟨rfl,q+q2,rfl⟩
theorem own_iff (A:Ad):likeA A=A↔A.a0=253∧A.a1=108∧A.a2=0∧A.a3=98∧A.a4=0∧A.a5=0∧A.a6=0∧A.a7=0∧A.a11=0:=by
 cases A;simp[likeA,mkA];constructor
 ·rintro⟨h0,h1,h2,h3,h4,h5,h6,h7,h11⟩;exact⟨h0.symm,h1.symm,h2.symm,h3.symm,h4.symm,h5.symm,h6.symm,h7.symm,h11.symm⟩
 ·rintro⟨h0,h1,h2,h3,h4,h5,h6,h7,h11⟩;exact⟨h0.symm,h1.symm,h2.symm,h3.symm,h4.symm,h5.symm,h6.symm,h7.symm,h11.symm⟩
theorem splitV_own {A:Ad} (h:likeA A=A):splitV A=.tuple #[sidV (A.a8*256+A.a9) A.a10 (argA A),.bool true]:=by unfold splitV;rw[if_pos (by simp[ownA,h])]
theorem splitV_not {A:Ad} (h:¬likeA A=A):splitV A=.tuple #[sidV 0 0 0,.bool false]:=by unfold splitV;rw[if_neg (by simp[ownA,h])]
theorem rsplit_any {A:Ad} (hA:okA A) (w:World):Calls Tryz.prog 55 #[A.v] w fun e w'=>e=.returned (splitV A)∧Chg [] w w':=by
 have b:=(Vs.okA.bd hA);have HB:Blk ((w.alloc (.cells (arrA A) 24)).alloc (.cells #[.int .i64 0,.int .i64 0,.int .u32 0] 63)) w.heap.size 24 (arrA A):=(Blk.new _ _ _).alloc _
 have HS:Blk ((w.alloc (.cells (arrA A) 24)).alloc (.cells #[.int .i64 0,.int .i64 0,.int .u32 0] 63)) (w.heap.size+1) 63 #[.int .i64 0,.int .i64 0,.int .u32 0]:=Blk.new' (by simp);have HC:=((Chg.refl [] w).alloc (.cells (arrA A) 24)).alloc (.cells #[.int .i64 0,.int .i64 0,.int .u32 0] 63)
 by_cases ho:likeA A=A
 ·have hv:=splitV_own ho;obtain⟨e0,e1,e2,e3,e4,e5,e6,e7,e11⟩:=(own_iff A).1 ho;have FU:=zH (fun (W:World) (h:Blk W w.heap.size 24 (arrA A))=>ru32 (h.cell 12) (h.cell 13) (h.cell 14) (h.cell 15) b.h12 b.h13 b.h14 b.h15);have HV:=zH hv;obtain⟨b80,b81⟩:=b.h8;obtain⟨b90,b91⟩:=b.h9;obtain⟨ba0,ba1⟩:=b.h10
  obtain⟨a0,a1,a2,a3,a4,a5,a6,a7,a8,a9,a10,a11,a12,a13,a14,a15⟩:=A;simp only at e0 e1 e2 e3 e4 e5 e6 e7 e11 b80 b81 b90 b91 ba0 ba1;subst e0 e1 e2 e3 e4 e5 e6 e7 e11;have w2:IntKind.i64.wrap (a8*256)=a8*256:=by rw[IntKind.wrap_i64];omega
  have w3:IntKind.i64.wrap (a8*256+a9)=a8*256+a9:=by rw[IntKind.wrap_i64];omega
  clear hv ho b hA w2 w3;go_enter Tryz.func55,Tryz.ntmps55
  go_wp2_with fail;refine (FU.out _ HB).mono ?_;rintro e w1 ⟨rfl,q,rfl⟩;have HB1:=HB.chg ((Chg.refl [] _).drewN q) (by simp);have HS1:=HS.chg ((Chg.refl [] _).drewN q) (by simp);have HC1:=HC.drewN q;clear HB HS HC FU;generalize World.drewN _ q=w1 at *;obtain⟨_,_,_,_,_,_,_,_,k8,k9,k10,_⟩:=cellsA HB1
  simp only at k8 k9 k10;go_wp2_with (first
   |(refine zs rfl 63 _ _ rfl rfl HS1 rfl rfl rfl (by kernel_rfl) rfl ?_;intro w5 hS5 hc5)
   |fail)
  exact bodyPost_ret (zr rfl rfl hS5 _ Tryz.underlying63 rfl (by kernel_rfl)) rfl ⟨by rw[HV.out];rfl,HC1.trans' hc5 (by simp)⟩
 ·have hv:=zH (splitV_not ho);have hcase:(¬A.a0=253)∨(A.a0=253∧¬A.a1=108)∨(A.a0=253∧A.a1=108∧¬A.a2=0)∨(A.a0=253∧A.a1=108∧A.a2=0∧¬A.a3=98)∨(A.a0=253∧A.a1=108∧A.a2=0∧A.a3=98∧¬A.a4=0)∨(A.a0=253∧A.a1=108∧A.a2=0∧A.a3=98∧A.a4=0∧¬A.a5=0) ∨
    (A.a0=253∧A.a1=108∧A.a2=0∧A.a3=98∧A.a4=0∧A.a5=0∧¬A.a6=0)∨(A.a0=253∧A.a1=108∧A.a2=0∧A.a3=98∧A.a4=0∧A.a5=0∧A.a6=0∧¬A.a7=0)∨(A.a0=253∧A.a1=108∧A.a2=0∧A.a3=98∧A.a4=0∧A.a5=0∧A.a6=0∧A.a7=0∧¬A.a11=0):=by
   by_cases e0:A.a0=253
   rotate_left
   ·exact .inl (e0)
   by_cases e1:A.a1=108
   rotate_left
   ·exact .inr (.inl ⟨e0,e1⟩)
   by_cases e2:A.a2=0
   rotate_left
   ·exact .inr (.inr (.inl ⟨e0,e1,e2⟩))
   by_cases e3:A.a3=98
   rotate_left
   ·exact .inr (.inr (.inr (.inl ⟨e0,e1,e2,e3⟩)))
   by_cases e4:A.a4=0
   rotate_left
   ·exact .inr (.inr (.inr (.inr (.inl ⟨e0,e1,e2,e3,e4⟩))))
   by_cases e5:A.a5=0
   rotate_left
   ·exact .inr (.inr (.inr (.inr (.inr (.inl ⟨e0,e1,e2,e3,e4,e5⟩)))))
   by_cases e6:A.a6=0
   rotate_left
   ·exact .inr (.inr (.inr (.inr (.inr (.inr (.inl ⟨e0,e1,e2,e3,e4,e5,e6⟩))))))
   by_cases e7:A.a7=0
   rotate_left
   ·exact .inr (.inr (.inr (.inr (.inr (.inr (.inr (.inl ⟨e0,e1,e2,e3,e4,e5,e6,e7⟩)))))))
   by_cases e8:A.a11=0
   rotate_left
   ·exact .inr (.inr (.inr (.inr (.inr (.inr (.inr (.inr ⟨e0,e1,e2,e3,e4,e5,e6,e7,e8⟩)))))))
   exact absurd ((own_iff A).2 ⟨e0,e1,e2,e3,e4,e5,e6,e7,e8⟩) ho
  obtain⟨a0,a1,a2,a3,a4,a5,a6,a7,a8,a9,a10,a11,a12,a13,a14,a15⟩:=A;simp only at hcase;clear ho b hA
  rcases hcase with n | ⟨rfl,n⟩ | ⟨rfl,rfl,n⟩ | ⟨rfl,rfl,rfl,n⟩ | ⟨rfl,rfl,rfl,rfl,n⟩ | ⟨rfl,rfl,rfl,rfl,rfl,n⟩ | ⟨rfl,rfl,rfl,rfl,rfl,rfl,n⟩ | ⟨rfl,rfl,rfl,rfl,rfl,rfl,rfl,n⟩ | ⟨rfl,rfl,rfl,rfl,rfl,rfl,rfl,rfl,n⟩
  all_goals
   have hb1:=bne_iff_ne.2 n;have hb2:=beq_eq_false_iff_ne.2 n;clear n HB HS;go_enter Tryz.func55,Tryz.ntmps55
   go_wp2_with fail;exact bodyPost_ret (zr rfl rfl (Blk.new' (by simp)) _ Tryz.underlying63 rfl (by kernel_rfl)) rfl ⟨by rw[hv.out];rfl,HC⟩
end Go.Proofs.YtgbndaiifbogmaaGreat.Vs
namespace Go.Proofs.YtgbndaiifbogmaaGreat
open Go.RowKit Go.Maps
theorem grow_any (n:Nat) (hn:n≤10000000) (w:World):Calls Tryz.prog 264 #[.slice none 0 0,.int .i64 n] w fun e w'=>∃v,e=.returned v∧OwY w' w.heap.size v []∧Chg [] w w':=by
 have h1:¬((n:Int)<0):=by omega
 have hw:IntKind.i64.wrap (n:Int)=(n:Int):=by rw[IntKind.wrap_i64];omega
 have hc0:∀W:World,(Instr.slice 22 (.slice none 0 0) none (some (.int .i64 0)) none).run Tryz.prog W=.ok (.slice none 0 0) W:=fun _=>by kernel_rfl
 by_cases h0:n=0
 ·subst h0;go_enter Tryz.func264,Tryz.ntmps264
  go_wp2_with fail;go_ret
  exact⟨_,rfl,OwY.nil _ _,Chg.refl _ _⟩
 ·have h2:((n:Int)>0):=by omega
  obtain⟨i0,hi0,hz,hs1,hb1⟩:=info_parts elY.info;have hr:=fun ty=>Lib.run_append_nil_zeros w 22 3 ty 5 i0 (.int .u8 0) .i64 .i64 Tryz.underlying22 Tryz.underlying3 hi0 hz n (by omega) (by rw[hs1];omega) (by omega) (by rw[hb1];omega)
  have hg:=grownCap_ge w n 0 5;have hm:=grownCap_le_maxLen w n 0 5 (by simp only[maxLen];omega)
  have hown:=World.ownsRow_made (base:=w.heap.size) (e:=5) (size:=1) w.drew (Builtin.zeroCells #[.int .u8 0] n++Builtin.zeroCells #[.int .u8 0] (grownCap w n 0 5-n)) (grownCap w n 0 5) (Nat.le_refl _) hm (by rw[Array.size_append,size_zeroCells,size_zeroCells];simp;omega)
  have hchg:Chg [] w (w.drew.alloc (.cells (Builtin.zeroCells #[.int .u8 0] n++Builtin.zeroCells #[.int .u8 0] (grownCap w n 0 5-n)) 5)):=(Chg.refl [] w).drew.alloc _
  have HO:Hid (OwY (w.alloc (.cells (Builtin.zeroCells #[Value.int .u8 0] n++Builtin.zeroCells #[Value.int .u8 0] (grownCap w n 0 5-n)) 5)).drew w.heap.size (.slice (some ⟨w.heap.size,0,none⟩) 0 (grownCap w n 0 5)) []∧Chg [] w (w.alloc (.cells (Builtin.zeroCells #[Value.int .u8 0] n++Builtin.zeroCells #[Value.int .u8 0] (grownCap w n 0 5-n)) 5)).drew):=zH (And.intro hown hchg)
  have HR:=zH hr;have hcut:∀W:World,(Instr.slice 22 (.slice (some ⟨w.heap.size,0,none⟩) n (grownCap w n 0 5)) none (some (.int .i64 0)) none).run Tryz.prog W=.ok (.slice (some ⟨w.heap.size,0,none⟩) 0 (grownCap w n 0 5)) W:=fun W=>by
   simp[Instr.slice,run_underlying Tryz.underlying22,Instr.sliceBounds,Instr.sliceBound,asIntOf,sizeOf,typeInfo,hi0,hs1,go_sem]
  clear hr hown hchg hn h0;generalize grownCap w n 0 5=c at *;go_enter Tryz.func264,Tryz.ntmps264
  go_wp2_with (first
   |(at_builtin;refine Lib.wpList_append_run _ rfl (.tmp 20) (.tmp 21) 22 3 rfl _ _ rfl rfl _ _ (HR.out _) ?_)
   |fail)
  go_ret
  exact⟨.slice (some ⟨w.heap.size,0,none⟩) 0 c,rfl,HO.out.1,HO.out.2⟩
structure SlLk (w:World) (pv:Value) (vs:List Value) (Ls:List By):Prop where
 l:SlL w 0 pv vs Ls
theorem flat_take_len (Ls:List By) (k:Nat):(Ls.take k).flatten.length≤Ls.flatten.length:=by
 have h:Ls.flatten=(Ls.take k).flatten++(Ls.drop k).flatten:=by rw[←List.flatten_append,List.take_append_drop]
 rw[h,List.length_append];omega
theorem flat_take_succ {Ls:List By} {k:Nat} {l:By} (h:Ls[k]?=some l):(Ls.take (k+1)).flatten=(Ls.take k).flatten++l:=by
 rw[List.take_add_one,h];simp
theorem concat_any {w:World} {pv:Value} {vs:List Value} {Ls:List By} (h:SlL w 0 pv vs Ls) (hn:vs.length≤1000) (ht:Ls.flatten.length≤1000000) :
  Calls Tryz.prog 216 #[pv] w fun e w'=>∃v,e=.returned v∧OwY w' w.heap.size v Ls.flatten∧Chg [] w w':=by
 obtain⟨A,c,rfl⟩:=h.sl.form;have HA:Hid (∀k,k<vs.length→∃b o v l,A=some ⟨b,o,none⟩∧vs[k]?=some v∧Ls[k]?=some l∧(∀W,Chg [] w W→W.cell? ⟨b,o+k,none⟩=some v∧SlY W 0 v l)):=zH fun k hk=>by
  obtain⟨b,o,c',e,_,_,hc⟩:=Sl.at_ h.sl hk (by omega);simp only[Value.slice.injEq,true_and]at e;have hc0:=hc 0 (by omega);simp only[Nat.mul_one,Nat.add_zero]at hc0;have h1:vs[k]?=some vs[k]:=List.getElem?_eq_getElem hk;have h2:Ls[k]?=some (Ls[k]'(by rw[h.len];exact hk)):=List.getElem?_eq_getElem _
  exact⟨b,o,_,_,e.1,h1,h2,fun W hc=>⟨hc.cell (by rw[hc0,h1]) (by simp),(h.each k _ _ h1 h2).1.chg0 hc⟩⟩
 have HS:Hid (∀k l,Ls[k]?=some l→(Ls.take (k+1)).flatten=(Ls.take k).flatten++l):=zH fun k l hl=>flat_take_succ hl
 have HL:Hid (∀k,(Ls.take k).flatten.length≤1000000):=zH fun k=>by have:=flat_take_len Ls k;omega
 obtain⟨T,hT⟩:∃T:Nat→Nat,∀k,T k=(Ls.take k).flatten.length:=⟨_,fun _=>rfl⟩;have T0:T 0=0:=by rw[hT];rfl
 have TN:Hid (T vs.length=Ls.flatten.length):=zH (by rw[hT,←h.len,List.take_length])
 have TS:Hid (∀k l,Ls[k]?=some l→T (k+1)=T k+l.length∧T (k+1)≤1000000):=zH fun k l hl=>by rw[hT,hT,flat_take_succ hl,List.length_append];have:=flat_take_len Ls (k+1);rw[flat_take_succ hl,List.length_append]at this;omega
 have HE:Hid (Ls.take vs.length=Ls):=zH (by rw[←h.len,List.take_length]);have HF:Hid (Ls.flatten=Ls.flatten):=zH rfl;generalize Ls.flatten.length=N at *;generalize vs.length=n at *;clear h hT;go_enter Tryz.func216,Tryz.ntmps216
 go_wp2_with fail;go_loop [3,5,11] (fun sv _ iv=>∃k:Nat,k≤n∧iv=.int .i64 k∧sv=.int .i64 (T k:Nat)) (fun _ _ iv=>n-(intOf iv).toNat)
 case atStart=>exact⟨0,by omega,rfl,by rw[T0];rfl⟩
 case round=>
  obtain⟨k,hk,rfl,rfl⟩:=hrel;by_cases hlt:k<n
  ·obtain⟨b,o,v,l,rfl,hv,hl,hW⟩:=HA.out k hlt;obtain⟨hcell,hs⟩:=hW w (Chg.refl _ _);obtain⟨A2,c2,rfl⟩:=hs.form;have hkI:(k:Int)<(n:Int):=by omega
   obtain⟨hq2,hb2⟩:=TS.out k l hl;have HN:=zH hq2;generalize T k=a1 at *;generalize l.length=m at *;have hwr:IntKind.i64.wrap ((a1:Int)+(m:Int))=(a1:Int)+(m:Int):=by rw[IntKind.wrap_i64];omega
   have hng:¬((a1:Int)+(m:Int)<0):=by omega
   clear hq2 hv hl hW hs HA HS HE TS TN T0;go_wp2_with fail;go_round
   case rel=>exact⟨k+1,by omega,by go_num,by rw[HN.out];push_cast;rfl⟩
   case measure=>simp[intOf];omega
  ·obtain rfl:k=n:=by omega
   have hkI:¬((k:Int)<(k:Int)):=by omega
   rw[TN.out];have FG:=zH (grow_any N (by omega) w);clear hlt TN TS T0;go_wp2_with fail;refine FG.out.mono ?_;rintro e w1 ⟨v1,rfl,ho1,hc1⟩;clear FG;go_wp2_with fail
   go_loopw [6,8,27] (fun vv _ iv wr=>∃j:Nat,j≤k∧iv=.int .i64 j∧Hid (OwY wr w.heap.size vv (Ls.take j).flatten)∧Hid (Chg [] w wr)) (fun _ _ iv _=>k-(intOf iv).toNat)
   case atStart=>exact⟨0,by omega,rfl,zH ho1,zH hc1⟩
   case round=>
    obtain⟨j,hj,rfl,HO,HC⟩:=hrel;by_cases hlt:j<k
    ·obtain⟨b,o,v,l,rfl,hv,hl,hW⟩:=HA.out j hlt;obtain⟨hcell,hs⟩:=hW wr HC.out;obtain⟨A2,c2,rfl⟩:=hs.form;have hkI:(j:Int)<(k:Int):=by omega
     have hfl:=HS.out j l hl;have hL1:=HL.out (j+1);have HLL:=zH (And.intro hL1 (congrArg List.length hfl));have HFL:=zH hfl;have HSl:=zH hs;have hz:=HC.out.size;have hOl:=zH (own_lt HO.out);clear hfl hL1 hs hv hl hW HA HS HL HE;have hlen:(Ls.take j).flatten.length+l.length≤1000000:=by
      have:=HLL.out;rw[List.length_append]at this;omega
     go_wp2_with (first
      |(at_builtin;refine wpList_app elY rfl (.tmp 31) (.tmp 32) rfl w.heap.size rfl HO.out rfl HSl.out (byV_one _) (by unfold maxLen;omega) (by omega) hz ?_;intro v2 w2 hown2 hc2 hb2)
      |fail)
     go_round
     case rel=>exact⟨j+1,by omega,by go_num,zH (by rw[HFL.out];unfold OwY;rw[List.length_append,List.map_append];exact hown2),zH (HC.out.trans' hc2 (fun x hx=>.inr (hOl.out x hx).1))⟩
     case measure=>simp[intOf];omega
    ·obtain rfl:j=k:=by omega
     have he:=HE.out;have hjI:¬((j:Int)<(j:Int)):=by omega
     rw[he]at HO;clear hlt he HE HA HS HL;go_wp2_with fail;go_ret
     exact⟨_,rfl,HO.out,HC.out⟩
end Go.Proofs.YtgbndaiifbogmaaGreat
