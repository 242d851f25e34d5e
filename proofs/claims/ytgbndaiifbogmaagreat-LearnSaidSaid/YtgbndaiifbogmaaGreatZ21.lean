/-
  Small laws and walks on the way to LearnSaid: Ro7, Rd4, Re4. Conditions: each theorem names its own.
-/
import Derived.Test.YtgbndaiifbogmaaGreatZ20
import Derived.Test.YtgbndaiifbogmaaGreatZ12
set_option linter.unusedVariables false
set_option linter.unusedSimpArgs false
set_option maxRecDepth 100000
set_option maxHeartbeats 8000000
namespace Go.Proofs.YtgbndaiifbogmaaGreat
open Go.RowKit Go.Maps
@[reducible] def arr6 (a b c d e f:Int):Array Value:=#[.int .i64 a,.int .i64 b,.int .i64 c,.int .i64 d,.int .i64 e,.int .i64 f]
theorem inf6 {a b c d e f:Int}:(Tryz.prog.info? 217).map (·.size)=some (arr6 a b c d e f).size:=by
 show _=some 6;kernel_rfl
def sixT (t:Sg):Nat→Int
 |0=>t.sport
 |1=>t.dport
 |2=>t.window
 |3=>t.ck
 |4=>t.urgent
 |_=>t.flags
theorem six_cell {t:Sg} {i:Nat} (hi:i<6):(arr6 t.sport t.dport t.window t.ck t.urgent t.flags)[i]?=some (.int .i64 (sixT t i)):=by
 match i,hi with
 |0,_=>rfl
 |1,_=>rfl
 |2,_=>rfl
 |3,_=>rfl
 |4,_=>rfl
 |5,_=>rfl
def badT (t:Sg) (i:Nat):Prop:=sixT t i<0∨sixT t i>65535∨(i=5∧sixT t i>255)
theorem badT_nums {t:Sg} {i:Nat} (hi:i<6) (h:badT t i):numsT t=false:=by
 unfold numsT;refine decide_eq_false ?_;intro ⟨⟨a,b⟩,⟨c,d⟩,⟨e,f⟩,⟨g,j⟩,⟨k,l⟩,m,n⟩
 match i,hi with
 |0,_=>simp only[badT,sixT]at h;omega
 |1,_=>simp only[badT,sixT]at h;omega
 |2,_=>simp only[badT,sixT]at h;omega
 |3,_=>simp only[badT,sixT]at h;omega
 |4,_=>simp only[badT,sixT]at h;omega
 |5,_=>simp only[badT,sixT]at h;omega
theorem goodT_nums {t:Sg} (h:∀i,i<6→¬badT t i):numsT t=true:=by
 unfold numsT;have h0:=h 0 (by omega);have h1:=h 1 (by omega);have h2:=h 2 (by omega);have h3:=h 3 (by omega);have h4:=h 4 (by omega);have h5:¬(t.flags<0∨t.flags>65535∨(5=5∧t.flags>255)):=h 5 (by omega);simp only[badT,sixT]at h0 h1 h2 h3 h4;refine decide_eq_true ?_;omega
theorem rcanT_any (t:Sg) (A:Option Addr) (n c:Nat) (hn:n≤1000000) (w:World) :
  Calls Tryz.prog 115 #[.agg (arrTc t noV (.slice A n c))] w fun e w'=>e=.returned (.int .i64 (canT t n))∧Chg [] w w':=by
 have hB:Blk (w.alloc (.cells (arrTc t noV (.slice A n c)) 34)) w.heap.size 34 (arrTc t noV (.slice A n c)):=Blk.new _ _ _;have hA1:=((Chg.refl [] w).alloc (.cells (arrTc t noV (.slice A n c)) 34)).alloc (.cells (arr6 0 0 0 0 0 0) 217)
 have hB1:Blk ((w.alloc (.cells (arrTc t noV (.slice A n c)) 34)).alloc (.cells (arr6 0 0 0 0 0 0) 217)) (w.heap.size+1) 217 (arr6 0 0 0 0 0 0):=Blk.new' (by simp);have HBB:=zH (hB.alloc (.cells (arr6 0 0 0 0 0 0) 217));have c0:=hB.cell 0;have c1:=hB.cell 1;have c4:=hB.cell 4;have c5:=hB.cell 5
 have c6:=hB.cell 6;have c7:=hB.cell 7;have HA:=zH hA1;have HC:Hid (canT t n=if numsT t=false then 2 else if 65515<n then 4 else 0):=zH rfl;have HBAD:=zH (fun i (hi:i<6) (h:badT t i)=>badT_nums hi h);have HGOOD:=zH (fun (h:∀i,i<6→¬badT t i)=>goodT_nums h)
 have HCELL:=zH (fun i (hi:i<6)=>six_cell (t:=t) hi);have FO:=zH oput0_any;clear hA1 hB;generalize canT t n=r at *;generalize numsT t=nt at *;go_enter Tryz.func115,Tryz.ntmps115
 go_upto_region 2 with (first
  |(refine zs (vs:=arr6 t.sport t.dport t.window t.ck t.urgent t.flags) rfl 217 (.tmp 3) (.tmp 19) rfl rfl hB1 rfl rfl rfl inf6 rfl ?_;intro w2 hB2 hc2)
  |fail)
 have HC2:=zH (HA.out.trans' hc2 (zN (by omega)));have HB2:=zH hB2;have HBT:=zH (HBB.out.chg hc2 (by simp));clear hB1 hB2 hc2 HA HBB c0 c1 c4 c5 c6 c7;go_wp2_with fail;go_loopw [4] (fun iv wr=>∃i:Nat,i≤6∧iv=.int .i64 i∧Hid (wr=w2)∧Hid (∀j,j<i→¬badT t j)) (fun iv _=>6-(intOf iv).toNat)
 case atStart=>exact⟨0,by omega,rfl,zH rfl,zH (fun j hj=>by omega)⟩
 case round=>
  obtain⟨i,hi,rfl,HW,HG⟩:=hrel;obtain rfl:wr=_:=HW.out;by_cases h6:i<6
  ·have iI:(i:Int)<6:=by omega
   have ei:IntKind.i64.wrap ((i:Int)+1)=(i:Int)+1:=by rw[IntKind.wrap_i64];omega
   have ci:wr.cell? ⟨w.heap.size+1,i,none⟩=some (.int .i64 (sixT t i)):=by
    rw[HB2.out.cell];exact HCELL.out i h6
   have HI:Hid (badT t i↔(sixT t i<0∨sixT t i>65535∨(i=5∧sixT t i>255))):=zH Iff.rfl;have HBI:=zH (HBAD.out i h6);generalize sixT t i=x at *;clear HBAD;by_cases n0:x<0
   ·have hr:Hid (r=2):=zH (by rw[HC.out,if_pos (HBI.out (HI.out.2 (.inl n0)))]);clear HI HBI HC HGOOD HG HW HBT HB2 HCELL;go_wp2_with fail;go_ret
    exact⟨by rw[hr.out];rfl,HC2.out⟩
   by_cases n1:x>65535
   ·have hr:Hid (r=2):=zH (by rw[HC.out,if_pos (HBI.out (HI.out.2 (.inr (.inl n1))))]);clear HI HBI HC HGOOD HG HW HBT HB2 HCELL;go_wp2_with fail;go_ret
    exact⟨by rw[hr.out];rfl,HC2.out⟩
   by_cases n2:i=5
   ·subst n2;by_cases n3:x>255
    ·have hr:Hid (r=2):=zH (by rw[HC.out,if_pos (HBI.out (HI.out.2 (.inr (.inr ⟨rfl,n3⟩))))]);clear HI HBI HC HGOOD HG HW HBT HB2 HCELL;go_wp2_with fail;go_ret
     exact⟨by rw[hr.out];rfl,HC2.out⟩
    ·have HG2:Hid (∀j,j<5+1→¬badT t j):=zH (fun j hj=>by
      by_cases e:j=5
      ·subst e;rw[HI.out];omega
      ·exact HG.out j (by omega))
     clear HI HBI HG;go_wp2_with fail;go_roundw
     case rel=>exact⟨5+1,by omega,by go_num,zH trivial,HG2⟩
     case measure=>simp[intOf]
   ·have hb5:((i:Int)==5)=false:=by rw[beq_eq_false_iff_ne];omega
    have HG2:Hid (∀j,j<i+1→¬badT t j):=zH (fun j hj=>by
     by_cases e:j=i
     ·subst e;rw[HI.out];omega
     ·exact HG.out j (by omega))
    clear HI HBI HG n2;go_wp2_with fail;go_roundw
    case rel=>exact⟨i+1,by omega,by go_num,zH trivial,HG2⟩
    case measure=>simp[intOf];omega
  ·have iI:¬(i:Int)<6:=by omega
   obtain rfl:i=6:=by omega
   have hnt:=HGOOD.out HG.out;have c8:wr.cell? ⟨w.heap.size,8,none⟩=some noV:=HBT.out.cell 8;have hX:=HC.out;rw[hnt,if_neg (by simp)]at hX;replace HX:=zH hX;clear HC HGOOD HG HBAD HCELL hX hnt HW HB2;go_wp2_with fail;refine (FO.out _).mono ?_;rintro e w3 ⟨rfl,hc3⟩
   have c9:w3.cell? ⟨w.heap.size,9,none⟩=some (.slice A n c):=(HBT.out.chg hc3 (by simp)).cell 9;have HC3:=zH (HC2.out.trans hc3);clear FO c8 HBT hc3;by_cases hl:65515<n
   ·have hr:Hid (r=4):=zH (by rw[HX.out,if_pos hl]);have hI:(n:Int)>65515:=by omega
    clear HX hl;go_wp2_with fail;go_ret
    exact⟨by rw[hr.out];rfl,HC3.out⟩
   ·have hr:Hid (r=0):=zH (by rw[HX.out,if_neg hl]);have hI:¬(n:Int)>65515:=by omega
    clear HX hl;go_wp2_with fail;go_ret
    exact⟨by rw[hr.out];rfl,HC3.out⟩
end Go.Proofs.YtgbndaiifbogmaaGreat
namespace Go.Proofs.YtgbndaiifbogmaaGreat
open Go.RowKit Go.Maps
@[reducible] def arr5 (a b c d e:Int):Array Value:=#[.int .i64 a,.int .i64 b,.int .i64 c,.int .i64 d,.int .i64 e]
theorem inf5 {a b c d e:Int}:(Tryz.prog.info? 282).map (·.size)=some (arr5 a b c d e).size:=by
 show _=some 5;kernel_rfl
theorem rcan_any (h:Hd) (w:World):Calls Tryz.prog 130 #[.agg (arrH h)] w fun e w'=>e=.returned (.int .i64 (canE h))∧Chg [] w w':=by
 have hA:=(Chg.refl [] w).alloc (.cells (arrH h) 26);have hB:Blk (w.alloc (.cells (arrH h) 26)) w.heap.size 26 (arrH h):=Blk.new _ _ _;have hA1:=hA.alloc (.cells (arr5 0 0 0 0 0) 282)
 have hB1:Blk ((w.alloc (.cells (arrH h) 26)).alloc (.cells (arr5 0 0 0 0 0) 282)) (w.heap.size+1) 282 (arr5 0 0 0 0 0):=Blk.new' (by simp);have c0:(w.alloc (.cells (arrH h) 26)).cell? ⟨w.heap.size,0,none⟩=some (.int .i64 h.cls):=hB.cell 0
 have c1:(w.alloc (.cells (arrH h) 26)).cell? ⟨w.heap.size,1,none⟩=some (.int .i64 h.lab):=hB.cell 1;have c2:(w.alloc (.cells (arrH h) 26)).cell? ⟨w.heap.size,2,none⟩=some (.int .i64 h.len):=hB.cell 2;have c3:(w.alloc (.cells (arrH h) 26)).cell? ⟨w.heap.size,3,none⟩=some (.int .i64 h.nxt):=hB.cell 3
 have c4:(w.alloc (.cells (arrH h) 26)).cell? ⟨w.heap.size,4,none⟩=some (.int .i64 h.hop):=hB.cell 4;have HA:=zH hA1;have HE:Hid (canH h=decide (0≤h.cls∧h.cls≤255∧0≤h.lab∧h.lab≤1048575∧0≤h.len∧h.len≤65535∧0≤h.nxt∧h.nxt≤255∧0≤h.hop∧h.hop≤255)):=zH rfl
 have HC:Hid (canE h=if canH h=true then 0 else 2):=zH rfl;generalize canE h=r at *;generalize canH h=ch at *;generalize h.cls=x0 at *;generalize h.lab=x1 at *;generalize h.len=x2 at *;generalize h.nxt=x3 at *;generalize h.hop=x4 at *;clear hA hA1 hB;go_enter Tryz.func130,Tryz.ntmps130
 go_upto_region 2 with (first
  |(refine zs (vs:=arr5 x0 x1 x2 x3 x4) rfl 282 (.tmp 3) (.tmp 16) rfl rfl hB1 rfl rfl rfl inf5 rfl ?_;intro w2 hB2 hc2)
  |fail)
 have HC2:=zH (HA.out.trans' hc2 (zN (by omega)));have hlt:=hB2.lt;have hB3:Blk (w2.alloc (.cells (arr5 0 0 0 0 0) 282)) w2.heap.size 282 (arr5 0 0 0 0 0):=Blk.new _ _ _;have hB23:=hB2.alloc (.cells (arr5 0 0 0 0 0) 282);have HC3:=zH (HC2.out.alloc (.cells (arr5 0 0 0 0 0) 282))
 have hz2:=HC2.out.size;clear hB1 hB2 hc2 HA HC2 c0 c1 c2 c3 c4;go_upto_region 3 with (first
  |(refine zs (vs:=arr5 255 1048575 65535 255 255) rfl 282 (.tmp 4) (.tmp 17) rfl rfl hB3 rfl rfl rfl inf5 rfl ?_;intro w4 hB4 hc4)
  |fail)
 have hB24:=hB23.chg hc4 (by simp;omega);have HC4:=zH (HC3.out.trans' hc4 (zN (by omega)));have HX:=zH (fun W (hc:Chg [] w4 W) i=>(hB24.chg hc (by simp)).cell i);have HM:=zH (fun W (hc:Chg [] w4 W) i=>(hB4.chg hc (by simp)).cell i);have HD:Hid (Chg [] w4 w4):=zH (Chg.refl _ _)
 generalize w2.heap.size=g2 at *;clear hB3 hB23 hB4 hB24 hc4 HC3 hlt hz2;go_wp2_with fail;refine wp_loop_rounds 6 ?_;rw[rounds_succ];go_upto_region 6 with fail
 have S0:Hid (∀W,Chg [] w4 W→W.cell? ⟨w.heap.size+1,0,none⟩=some (.int .i64 x0)):=zH (fun W hc=>HX.out W (HD.out.trans hc) 0);have M0:Hid (∀W,Chg [] w4 W→W.cell? ⟨g2,0,none⟩=some (.int .i64 255)):=zH (fun W hc=>HM.out W (HD.out.trans hc) 0);by_cases n0:x0<0
 ·have hch:ch=false:=by have:=HE.out;rw[this];exact decide_eq_false (by omega)
  have hr:Hid (r=2):=zH (by rw[HC.out,hch];rfl);clear HE HC hch HX HM;refine wp_region_chg (by kernel_rfl) (by kernel_rfl) ?_
  repeat (first
   |((with_reducible refine wpQuiet_cellC 3 (.tmp 23) ?_ ?_ (w.heap.size+1) 0 ?_ (.int .i64 x0) _ S0.out Tryz.underlying3 ?_ ?_);(focus rfl);(focus rfl);(focus rfl);(focus rfl);(try simp only[zP]))
   |((with_reducible refine wpQuiet_skip ?_ ?_);(focus rfl);(try simp only[zP]))
   |((with_reducible refine wpQuiet_pure (v:=?_) ?_ (fun w=>?_) ?_);rotate_left;(focus rfl);(focus (go_simp<;>with_reducible rfl));(try simp only[zP])))
  refine wpQuiet_nil ?_;intro wa hca;go_wp2_with fail;go_ret
  exact⟨by rw[hr.out];rfl,(HC4.out.trans HD.out).trans hca⟩
 by_cases b0:x0>255
 ·have hch:ch=false:=by have:=HE.out;rw[this];exact decide_eq_false (by omega)
  have hr:Hid (r=2):=zH (by rw[HC.out,hch];rfl);clear HE HC hch HX HM;refine wp_region_chg (by kernel_rfl) (by kernel_rfl) ?_
  repeat (first
   |((with_reducible refine wpQuiet_cellC 3 (.tmp 23) ?_ ?_ (w.heap.size+1) 0 ?_ (.int .i64 x0) _ S0.out Tryz.underlying3 ?_ ?_);(focus rfl);(focus rfl);(focus rfl);(focus rfl);(try simp only[zP]))
   |((with_reducible refine wpQuiet_cellC 3 (.tmp 28) ?_ ?_ (w.heap.size+1) 0 ?_ (.int .i64 x0) _ S0.out Tryz.underlying3 ?_ ?_);(focus rfl);(focus rfl);(focus rfl);(focus rfl);(try simp only[zP]))
   |((with_reducible refine wpQuiet_cellC 3 (.tmp 31) ?_ ?_ g2 0 ?_ (.int .i64 255) _ M0.out Tryz.underlying3 ?_ ?_);(focus rfl);(focus rfl);(focus rfl);(focus rfl);(try simp only[zP]))
   |((with_reducible refine wpQuiet_pure (v:=?_) ?_ (fun w=>?_) ?_);rotate_left;(focus rfl);(focus (go_simp<;>with_reducible rfl));(try simp only[zP])))
  refine wpQuiet_nil ?_;intro wa hca;go_wp2_with fail;go_ret
  exact⟨by rw[hr.out];rfl,(HC4.out.trans HD.out).trans hca⟩
 refine wp_region_chg (by kernel_rfl) (by kernel_rfl) ?_
 repeat (first
  |((with_reducible refine wpQuiet_cellC 3 (.tmp 23) ?_ ?_ (w.heap.size+1) 0 ?_ (.int .i64 x0) _ S0.out Tryz.underlying3 ?_ ?_);(focus rfl);(focus rfl);(focus rfl);(focus rfl);(try simp only[zP]))
  |((with_reducible refine wpQuiet_cellC 3 (.tmp 28) ?_ ?_ (w.heap.size+1) 0 ?_ (.int .i64 x0) _ S0.out Tryz.underlying3 ?_ ?_);(focus rfl);(focus rfl);(focus rfl);(focus rfl);(try simp only[zP]))
  |((with_reducible refine wpQuiet_cellC 3 (.tmp 31) ?_ ?_ g2 0 ?_ (.int .i64 255) _ M0.out Tryz.underlying3 ?_ ?_);(focus rfl);(focus rfl);(focus rfl);(focus rfl);(try simp only[zP]))
  |((with_reducible refine wpQuiet_pure (v:=?_) ?_ (fun w=>?_) ?_);rotate_left;(focus rfl);(focus (go_simp<;>with_reducible rfl));(try simp only[zP])))
 refine wpQuiet_nil ?_;intro wb1 hca;replace HD:=zH (HD.out.trans hca);have N0:Hid (0≤x0∧x0≤255):=zH (by omega);clear n0 b0 S0 M0 hca;go_wp2_with fail;rw[rounds_succ];go_upto_region 6 with fail
 have S1:Hid (∀W,Chg [] wb1 W→W.cell? ⟨w.heap.size+1,1,none⟩=some (.int .i64 x1)):=zH (fun W hc=>HX.out W (HD.out.trans hc) 1);have M1:Hid (∀W,Chg [] wb1 W→W.cell? ⟨g2,1,none⟩=some (.int .i64 1048575)):=zH (fun W hc=>HM.out W (HD.out.trans hc) 1);by_cases n1:x1<0
 ·have hch:ch=false:=by have:=HE.out;rw[this];exact decide_eq_false (by omega)
  have hr:Hid (r=2):=zH (by rw[HC.out,hch];rfl);clear HE HC hch HX HM;refine wp_region_chg (by kernel_rfl) (by kernel_rfl) ?_
  repeat (first
   |((with_reducible refine wpQuiet_cellC 3 (.tmp 23) ?_ ?_ (w.heap.size+1) 1 ?_ (.int .i64 x1) _ S1.out Tryz.underlying3 ?_ ?_);(focus rfl);(focus rfl);(focus rfl);(focus rfl);(try simp only[zP]))
   |((with_reducible refine wpQuiet_skip ?_ ?_);(focus rfl);(try simp only[zP]))
   |((with_reducible refine wpQuiet_pure (v:=?_) ?_ (fun w=>?_) ?_);rotate_left;(focus rfl);(focus (go_simp<;>with_reducible rfl));(try simp only[zP])))
  refine wpQuiet_nil ?_;intro wa hca;go_wp2_with fail;go_ret
  exact⟨by rw[hr.out];rfl,(HC4.out.trans HD.out).trans hca⟩
 by_cases b1:x1>1048575
 ·have hch:ch=false:=by have:=HE.out;rw[this];exact decide_eq_false (by omega)
  have hr:Hid (r=2):=zH (by rw[HC.out,hch];rfl);clear HE HC hch HX HM;refine wp_region_chg (by kernel_rfl) (by kernel_rfl) ?_
  repeat (first
   |((with_reducible refine wpQuiet_cellC 3 (.tmp 23) ?_ ?_ (w.heap.size+1) 1 ?_ (.int .i64 x1) _ S1.out Tryz.underlying3 ?_ ?_);(focus rfl);(focus rfl);(focus rfl);(focus rfl);(try simp only[zP]))
   |((with_reducible refine wpQuiet_cellC 3 (.tmp 28) ?_ ?_ (w.heap.size+1) 1 ?_ (.int .i64 x1) _ S1.out Tryz.underlying3 ?_ ?_);(focus rfl);(focus rfl);(focus rfl);(focus rfl);(try simp only[zP]))
   |((with_reducible refine wpQuiet_cellC 3 (.tmp 31) ?_ ?_ g2 1 ?_ (.int .i64 1048575) _ M1.out Tryz.underlying3 ?_ ?_);(focus rfl);(focus rfl);(focus rfl);(focus rfl);(try simp only[zP]))
   |((with_reducible refine wpQuiet_pure (v:=?_) ?_ (fun w=>?_) ?_);rotate_left;(focus rfl);(focus (go_simp<;>with_reducible rfl));(try simp only[zP])))
  refine wpQuiet_nil ?_;intro wa hca;go_wp2_with fail;go_ret
  exact⟨by rw[hr.out];rfl,(HC4.out.trans HD.out).trans hca⟩
 refine wp_region_chg (by kernel_rfl) (by kernel_rfl) ?_
 repeat (first
  |((with_reducible refine wpQuiet_cellC 3 (.tmp 23) ?_ ?_ (w.heap.size+1) 1 ?_ (.int .i64 x1) _ S1.out Tryz.underlying3 ?_ ?_);(focus rfl);(focus rfl);(focus rfl);(focus rfl);(try simp only[zP]))
  |((with_reducible refine wpQuiet_cellC 3 (.tmp 28) ?_ ?_ (w.heap.size+1) 1 ?_ (.int .i64 x1) _ S1.out Tryz.underlying3 ?_ ?_);(focus rfl);(focus rfl);(focus rfl);(focus rfl);(try simp only[zP]))
  |((with_reducible refine wpQuiet_cellC 3 (.tmp 31) ?_ ?_ g2 1 ?_ (.int .i64 1048575) _ M1.out Tryz.underlying3 ?_ ?_);(focus rfl);(focus rfl);(focus rfl);(focus rfl);(try simp only[zP]))
  |((with_reducible refine wpQuiet_pure (v:=?_) ?_ (fun w=>?_) ?_);rotate_left;(focus rfl);(focus (go_simp<;>with_reducible rfl));(try simp only[zP])))
 refine wpQuiet_nil ?_;intro wb2 hca;replace HD:=zH (HD.out.trans hca);have N1:Hid (0≤x1∧x1≤1048575):=zH (by omega);clear n1 b1 S1 M1 hca;go_wp2_with fail;rw[rounds_succ];go_upto_region 6 with fail
 have S2:Hid (∀W,Chg [] wb2 W→W.cell? ⟨w.heap.size+1,2,none⟩=some (.int .i64 x2)):=zH (fun W hc=>HX.out W (HD.out.trans hc) 2);have M2:Hid (∀W,Chg [] wb2 W→W.cell? ⟨g2,2,none⟩=some (.int .i64 65535)):=zH (fun W hc=>HM.out W (HD.out.trans hc) 2);by_cases n2:x2<0
 ·have hch:ch=false:=by have:=HE.out;rw[this];exact decide_eq_false (by omega)
  have hr:Hid (r=2):=zH (by rw[HC.out,hch];rfl);clear HE HC hch HX HM;refine wp_region_chg (by kernel_rfl) (by kernel_rfl) ?_
  repeat (first
   |((with_reducible refine wpQuiet_cellC 3 (.tmp 23) ?_ ?_ (w.heap.size+1) 2 ?_ (.int .i64 x2) _ S2.out Tryz.underlying3 ?_ ?_);(focus rfl);(focus rfl);(focus rfl);(focus rfl);(try simp only[zP]))
   |((with_reducible refine wpQuiet_skip ?_ ?_);(focus rfl);(try simp only[zP]))
   |((with_reducible refine wpQuiet_pure (v:=?_) ?_ (fun w=>?_) ?_);rotate_left;(focus rfl);(focus (go_simp<;>with_reducible rfl));(try simp only[zP])))
  refine wpQuiet_nil ?_;intro wa hca;go_wp2_with fail;go_ret
  exact⟨by rw[hr.out];rfl,(HC4.out.trans HD.out).trans hca⟩
 by_cases b2:x2>65535
 ·have hch:ch=false:=by have:=HE.out;rw[this];exact decide_eq_false (by omega)
  have hr:Hid (r=2):=zH (by rw[HC.out,hch];rfl);clear HE HC hch HX HM;refine wp_region_chg (by kernel_rfl) (by kernel_rfl) ?_
  repeat (first
   |((with_reducible refine wpQuiet_cellC 3 (.tmp 23) ?_ ?_ (w.heap.size+1) 2 ?_ (.int .i64 x2) _ S2.out Tryz.underlying3 ?_ ?_);(focus rfl);(focus rfl);(focus rfl);(focus rfl);(try simp only[zP]))
   |((with_reducible refine wpQuiet_cellC 3 (.tmp 28) ?_ ?_ (w.heap.size+1) 2 ?_ (.int .i64 x2) _ S2.out Tryz.underlying3 ?_ ?_);(focus rfl);(focus rfl);(focus rfl);(focus rfl);(try simp only[zP]))
   |((with_reducible refine wpQuiet_cellC 3 (.tmp 31) ?_ ?_ g2 2 ?_ (.int .i64 65535) _ M2.out Tryz.underlying3 ?_ ?_);(focus rfl);(focus rfl);(focus rfl);(focus rfl);(try simp only[zP]))
   |((with_reducible refine wpQuiet_pure (v:=?_) ?_ (fun w=>?_) ?_);rotate_left;(focus rfl);(focus (go_simp<;>with_reducible rfl));(try simp only[zP])))
  refine wpQuiet_nil ?_;intro wa hca;go_wp2_with fail;go_ret
  exact⟨by rw[hr.out];rfl,(HC4.out.trans HD.out).trans hca⟩
 refine wp_region_chg (by kernel_rfl) (by kernel_rfl) ?_
 repeat (first
  |((with_reducible refine wpQuiet_cellC 3 (.tmp 23) ?_ ?_ (w.heap.size+1) 2 ?_ (.int .i64 x2) _ S2.out Tryz.underlying3 ?_ ?_);(focus rfl);(focus rfl);(focus rfl);(focus rfl);(try simp only[zP]))
  |((with_reducible refine wpQuiet_cellC 3 (.tmp 28) ?_ ?_ (w.heap.size+1) 2 ?_ (.int .i64 x2) _ S2.out Tryz.underlying3 ?_ ?_);(focus rfl);(focus rfl);(focus rfl);(focus rfl);(try simp only[zP]))
  |((with_reducible refine wpQuiet_cellC 3 (.tmp 31) ?_ ?_ g2 2 ?_ (.int .i64 65535) _ M2.out Tryz.underlying3 ?_ ?_);(focus rfl);(focus rfl);(focus rfl);(focus rfl);(try simp only[zP]))
  |((with_reducible refine wpQuiet_pure (v:=?_) ?_ (fun w=>?_) ?_);rotate_left;(focus rfl);(focus (go_simp<;>with_reducible rfl));(try simp only[zP])))
 refine wpQuiet_nil ?_;intro wb3 hca;replace HD:=zH (HD.out.trans hca);have N2:Hid (0≤x2∧x2≤65535):=zH (by omega);clear n2 b2 S2 M2 hca;go_wp2_with fail;rw[rounds_succ];go_upto_region 6 with fail
 have S3:Hid (∀W,Chg [] wb3 W→W.cell? ⟨w.heap.size+1,3,none⟩=some (.int .i64 x3)):=zH (fun W hc=>HX.out W (HD.out.trans hc) 3);have M3:Hid (∀W,Chg [] wb3 W→W.cell? ⟨g2,3,none⟩=some (.int .i64 255)):=zH (fun W hc=>HM.out W (HD.out.trans hc) 3);by_cases n3:x3<0
 ·have hch:ch=false:=by have:=HE.out;rw[this];exact decide_eq_false (by omega)
  have hr:Hid (r=2):=zH (by rw[HC.out,hch];rfl);clear HE HC hch HX HM;refine wp_region_chg (by kernel_rfl) (by kernel_rfl) ?_
  repeat (first
   |((with_reducible refine wpQuiet_cellC 3 (.tmp 23) ?_ ?_ (w.heap.size+1) 3 ?_ (.int .i64 x3) _ S3.out Tryz.underlying3 ?_ ?_);(focus rfl);(focus rfl);(focus rfl);(focus rfl);(try simp only[zP]))
   |((with_reducible refine wpQuiet_skip ?_ ?_);(focus rfl);(try simp only[zP]))
   |((with_reducible refine wpQuiet_pure (v:=?_) ?_ (fun w=>?_) ?_);rotate_left;(focus rfl);(focus (go_simp<;>with_reducible rfl));(try simp only[zP])))
  refine wpQuiet_nil ?_;intro wa hca;go_wp2_with fail;go_ret
  exact⟨by rw[hr.out];rfl,(HC4.out.trans HD.out).trans hca⟩
 by_cases b3:x3>255
 ·have hch:ch=false:=by have:=HE.out;rw[this];exact decide_eq_false (by omega)
  have hr:Hid (r=2):=zH (by rw[HC.out,hch];rfl);clear HE HC hch HX HM;refine wp_region_chg (by kernel_rfl) (by kernel_rfl) ?_
  repeat (first
   |((with_reducible refine wpQuiet_cellC 3 (.tmp 23) ?_ ?_ (w.heap.size+1) 3 ?_ (.int .i64 x3) _ S3.out Tryz.underlying3 ?_ ?_);(focus rfl);(focus rfl);(focus rfl);(focus rfl);(try simp only[zP]))
   |((with_reducible refine wpQuiet_cellC 3 (.tmp 28) ?_ ?_ (w.heap.size+1) 3 ?_ (.int .i64 x3) _ S3.out Tryz.underlying3 ?_ ?_);(focus rfl);(focus rfl);(focus rfl);(focus rfl);(try simp only[zP]))
   |((with_reducible refine wpQuiet_cellC 3 (.tmp 31) ?_ ?_ g2 3 ?_ (.int .i64 255) _ M3.out Tryz.underlying3 ?_ ?_);(focus rfl);(focus rfl);(focus rfl);(focus rfl);(try simp only[zP]))
   |((with_reducible refine wpQuiet_pure (v:=?_) ?_ (fun w=>?_) ?_);rotate_left;(focus rfl);(focus (go_simp<;>with_reducible rfl));(try simp only[zP])))
  refine wpQuiet_nil ?_;intro wa hca;go_wp2_with fail;go_ret
  exact⟨by rw[hr.out];rfl,(HC4.out.trans HD.out).trans hca⟩
 refine wp_region_chg (by kernel_rfl) (by kernel_rfl) ?_
 repeat (first
  |((with_reducible refine wpQuiet_cellC 3 (.tmp 23) ?_ ?_ (w.heap.size+1) 3 ?_ (.int .i64 x3) _ S3.out Tryz.underlying3 ?_ ?_);(focus rfl);(focus rfl);(focus rfl);(focus rfl);(try simp only[zP]))
  |((with_reducible refine wpQuiet_cellC 3 (.tmp 28) ?_ ?_ (w.heap.size+1) 3 ?_ (.int .i64 x3) _ S3.out Tryz.underlying3 ?_ ?_);(focus rfl);(focus rfl);(focus rfl);(focus rfl);(try simp only[zP]))
  |((with_reducible refine wpQuiet_cellC 3 (.tmp 31) ?_ ?_ g2 3 ?_ (.int .i64 255) _ M3.out Tryz.underlying3 ?_ ?_);(focus rfl);(focus rfl);(focus rfl);(focus rfl);(try simp only[zP]))
  |((with_reducible refine wpQuiet_pure (v:=?_) ?_ (fun w=>?_) ?_);rotate_left;(focus rfl);(focus (go_simp<;>with_reducible rfl));(try simp only[zP])))
 refine wpQuiet_nil ?_;intro wb4 hca;replace HD:=zH (HD.out.trans hca);have N3:Hid (0≤x3∧x3≤255):=zH (by omega);clear n3 b3 S3 M3 hca;go_wp2_with fail;rw[rounds_succ];go_upto_region 6 with fail
 have S4:Hid (∀W,Chg [] wb4 W→W.cell? ⟨w.heap.size+1,4,none⟩=some (.int .i64 x4)):=zH (fun W hc=>HX.out W (HD.out.trans hc) 4);have M4:Hid (∀W,Chg [] wb4 W→W.cell? ⟨g2,4,none⟩=some (.int .i64 255)):=zH (fun W hc=>HM.out W (HD.out.trans hc) 4);by_cases n4:x4<0
 ·have hch:ch=false:=by have:=HE.out;rw[this];exact decide_eq_false (by omega)
  have hr:Hid (r=2):=zH (by rw[HC.out,hch];rfl);clear HE HC hch HX HM;refine wp_region_chg (by kernel_rfl) (by kernel_rfl) ?_
  repeat (first
   |((with_reducible refine wpQuiet_cellC 3 (.tmp 23) ?_ ?_ (w.heap.size+1) 4 ?_ (.int .i64 x4) _ S4.out Tryz.underlying3 ?_ ?_);(focus rfl);(focus rfl);(focus rfl);(focus rfl);(try simp only[zP]))
   |((with_reducible refine wpQuiet_skip ?_ ?_);(focus rfl);(try simp only[zP]))
   |((with_reducible refine wpQuiet_pure (v:=?_) ?_ (fun w=>?_) ?_);rotate_left;(focus rfl);(focus (go_simp<;>with_reducible rfl));(try simp only[zP])))
  refine wpQuiet_nil ?_;intro wa hca;go_wp2_with fail;go_ret
  exact⟨by rw[hr.out];rfl,(HC4.out.trans HD.out).trans hca⟩
 by_cases b4:x4>255
 ·have hch:ch=false:=by have:=HE.out;rw[this];exact decide_eq_false (by omega)
  have hr:Hid (r=2):=zH (by rw[HC.out,hch];rfl);clear HE HC hch HX HM;refine wp_region_chg (by kernel_rfl) (by kernel_rfl) ?_
  repeat (first
   |((with_reducible refine wpQuiet_cellC 3 (.tmp 23) ?_ ?_ (w.heap.size+1) 4 ?_ (.int .i64 x4) _ S4.out Tryz.underlying3 ?_ ?_);(focus rfl);(focus rfl);(focus rfl);(focus rfl);(try simp only[zP]))
   |((with_reducible refine wpQuiet_cellC 3 (.tmp 28) ?_ ?_ (w.heap.size+1) 4 ?_ (.int .i64 x4) _ S4.out Tryz.underlying3 ?_ ?_);(focus rfl);(focus rfl);(focus rfl);(focus rfl);(try simp only[zP]))
   |((with_reducible refine wpQuiet_cellC 3 (.tmp 31) ?_ ?_ g2 4 ?_ (.int .i64 255) _ M4.out Tryz.underlying3 ?_ ?_);(focus rfl);(focus rfl);(focus rfl);(focus rfl);(try simp only[zP]))
   |((with_reducible refine wpQuiet_pure (v:=?_) ?_ (fun w=>?_) ?_);rotate_left;(focus rfl);(focus (go_simp<;>with_reducible rfl));(try simp only[zP])))
  refine wpQuiet_nil ?_;intro wa hca;go_wp2_with fail;go_ret
  exact⟨by rw[hr.out];rfl,(HC4.out.trans HD.out).trans hca⟩
 refine wp_region_chg (by kernel_rfl) (by kernel_rfl) ?_
 repeat (first
  |((with_reducible refine wpQuiet_cellC 3 (.tmp 23) ?_ ?_ (w.heap.size+1) 4 ?_ (.int .i64 x4) _ S4.out Tryz.underlying3 ?_ ?_);(focus rfl);(focus rfl);(focus rfl);(focus rfl);(try simp only[zP]))
  |((with_reducible refine wpQuiet_cellC 3 (.tmp 28) ?_ ?_ (w.heap.size+1) 4 ?_ (.int .i64 x4) _ S4.out Tryz.underlying3 ?_ ?_);(focus rfl);(focus rfl);(focus rfl);(focus rfl);(try simp only[zP]))
  |((with_reducible refine wpQuiet_cellC 3 (.tmp 31) ?_ ?_ g2 4 ?_ (.int .i64 255) _ M4.out Tryz.underlying3 ?_ ?_);(focus rfl);(focus rfl);(focus rfl);(focus rfl);(try simp only[zP]))
  |((with_reducible refine wpQuiet_pure (v:=?_) ?_ (fun w=>?_) ?_);rotate_left;(focus rfl);(focus (go_simp<;>with_reducible rfl));(try simp only[zP])))
 refine wpQuiet_nil ?_;intro wb5 hca;replace HD:=zH (HD.out.trans hca);have N4:Hid (0≤x4∧x4≤255):=zH (by omega);clear n4 b4 S4 M4 hca;go_wp2_with fail;rw[rounds_succ]
 have hch:ch=true:=by have:=HE.out;rw[this];exact decide_eq_true ⟨N0.out.1,N0.out.2,N1.out.1,N1.out.2,N2.out.1,N2.out.2,N3.out.1,N3.out.2,N4.out.1,N4.out.2⟩
 have hr:Hid (r=0):=zH (by rw[HC.out,hch];rfl);clear HE HC hch HX HM N0 N1 N2 N3 N4;go_wp2_with fail;go_ret
 exact⟨by rw[hr.out];rfl,HC4.out.trans HD.out⟩
end Go.Proofs.YtgbndaiifbogmaaGreat
namespace Go.Proofs.YtgbndaiifbogmaaGreat
open Go.RowKit Go.Maps
theorem four_word {x1 x2:Nat} (h1:x1≤255) (h2:x2≤1048575):fourS (1610612736+x1*1048576+x2)=[96+x1/16,x1%16*16+x2/65536]++twoS (x2%65536):=by
 simp only[fourS,twoS,List.cons_append,List.nil_append];congr 1
 ·omega
 ·congr 1
  ·omega
  ·congr 1
   ·omega
   ·congr 1;omega
theorem rput_any {h:Hd} (k:wfH h) (w:World):Calls Tryz.prog 76 #[.agg (arrH h)] w fun e w'=>∃v,e=.returned v∧OwY w' w.heap.size v (putH h)∧Chg [] w w':=by
 have hA:=(Chg.refl [] w).alloc (.cells (arrH h) 26);have hB:Blk (w.alloc (.cells (arrH h) 26)) w.heap.size 26 (arrH h):=Blk.new _ _ _;have HA:=zH hA;have FC:=zH (fun W=>rcan_any h W)
 have HP:Hid (putH h=if canH h=true then fourS (1610612736+h.cls*1048576+h.lab).toNat++twoB h.len ++ [loB h.nxt,loB h.hop]++adB h.src++adB h.dst else []):=zH rfl;generalize putH h=pb at *;clear hA;by_cases hc:canH h=true
 ·have hp:=HP.out;rw[if_pos hc]at hp;have hce:canE h=0:=by unfold canE;rw[if_pos hc]
  rw[hce]at FC;obtain⟨c1,c2,c3,c4,c5⟩:=canH.at hc;have HPs:Hid (((arrH h).toList.drop 5).take (adB h.src).length=(adB h.src).map byV):=zH (adB_of k.src);have HPd:Hid (((arrH h).toList.drop 21).take (adB h.dst).length=(adB h.dst).map byV):=zH (adB_of k.dst);obtain⟨cls,lab,len,nxt,hop,src,dst⟩:=h
  simp only at c1 c2 c3 c4 c5 hp;obtain⟨x1,rfl⟩:∃x:Nat,cls=(x:Int):=⟨cls.toNat,by omega⟩;obtain⟨x2,rfl⟩:∃x:Nat,lab=(x:Int):=⟨lab.toNat,by omega⟩;obtain⟨x3,rfl⟩:∃x:Nat,len=(x:Int):=⟨len.toNat,by omega⟩
  rw[show ((1610612736:Int)+(x1:Int)*1048576+(x2:Int)).toNat=1610612736+x1*1048576+x2 by omega,four_word (by omega) (by omega),←twoS_B (n:=x3) (by omega)]at hp;replace HP:=zH hp;have q1:(x1:Int)/16=((x1/16:Nat):Int):=rfl;have q2:(x1:Int)%16=((x1%16:Nat):Int):=rfl
  have q3:(x2:Int)/65536=((x2/65536:Nat):Int):=rfl;have q4:(x2:Int)%65536=((x2%65536:Nat):Int):=rfl;have t1:(x1:Int).tdiv 16=((x1/16:Nat):Int):=rfl;have t2:(x1:Int).tmod 16=((x1%16:Nat):Int):=rfl;have t3:(x2:Int).tdiv 65536=((x2/65536:Nat):Int):=rfl
  have t4:(x2:Int).tmod 65536=((x2%65536:Nat):Int):=rfl;have b1:x1/16<16:=by omega
  have b2:x1%16<16:=by omega
  have b3:x2/65536<16:=by omega
  have b4:x2%65536<65536:=by omega
  generalize x1/16=a1 at *;generalize x1%16=a2 at *;generalize x2/65536=a3 at *;generalize x2%65536=a4 at *;obtain⟨y1,hy1⟩:∃y,y=96+a1:=⟨_,rfl⟩;obtain⟨y2,hy2⟩:∃y,y=a2*16+a3:=⟨_,rfl⟩;rw[←hy1,←hy2]at HP;have v1:IntKind.i64.wrap (a1:Int)=(a1:Int):=by rw[IntKind.wrap_i64];omega
  have v3:IntKind.i64.wrap (a3:Int)=(a3:Int):=by rw[IntKind.wrap_i64];omega
  have u1:IntKind.i64.wrap (96+(a1:Int))=96+(a1:Int):=by rw[IntKind.wrap_i64];omega
  have u2:IntKind.u8.wrap (96+(a1:Int))=(y1:Int):=by rw[IntKind.wrap_u8'];omega
  have u3:IntKind.i64.wrap ((a2:Int)*16)=(a2:Int)*16:=by rw[IntKind.wrap_i64];omega
  have u4:IntKind.i64.wrap ((a2:Int)*16+(a3:Int))=(a2:Int)*16+(a3:Int):=by rw[IntKind.wrap_i64];omega
  have u5:IntKind.u8.wrap ((a2:Int)*16+(a3:Int))=(y2:Int):=by rw[IntKind.wrap_u8'];omega
  have HQ:=zH (And.intro q1 (And.intro q2 (And.intro q3 (And.intro t1 (And.intro t2 t3)))));have HU:=zH (And.intro v1 (And.intro v3 (And.intro u1 (And.intro u2 (And.intro u3 (And.intro u4 u5))))));have HQ4:=zH (And.intro q4 t4);have F4:=zH (fun W=>two01_any a4 b4 W)
  have F3:=zH (fun W=>two01_any x3 (by omega) W);have e1:=loB_eq nxt;have e2:=loB_eq hop;clear hp hce hc k q1 q2 q3 q4 t1 t2 t3 t4 v1 v3 u1 u2 u3 u4 u5 c1 c2 c3 c4 c5 b1 b2 b3 b4 hy1 hy2;go_enter Tryz.func76,Tryz.ntmps76
  go_wp2_with (first
   |(refine zl rfl 26 (.tmp 1) rfl hB rfl _ Tryz.underlying26 rfl infH ?_)
   |fail)
  refine (FC.out _).mono ?_;rintro e w1 ⟨rfl,hc1⟩;have hB1:=hB.chg hc1 (by simp);have HC1:=zH (HA.out.trans hc1);have hlt:=hB1.lt;have p0:w1.cell? ⟨w.heap.size,0,none⟩=some (.int .i64 (x1:Int)):=hB1.cell 0;have p1:w1.cell? ⟨w.heap.size,1,none⟩=some (.int .i64 (x2:Int)):=hB1.cell 1
  obtain⟨q1,q2,q3,t1,t2,t3⟩:=HQ.out;obtain⟨v1,v3,u1,u2,u3,u4,u5⟩:=HU.out;clear FC hB hc1 HA HQ HU;go_upto_region 4 with fail
  have hA2:=(Chg.refl [] w1).alloc (.cells #[byV y1,byV y2] 5);have HD2:=zH hA2;have HO2:Hid (OwY (w1.alloc (.cells #[byV y1,byV y2] 5)) w1.heap.size (.slice (some ⟨w1.heap.size,0,none⟩) 2 2) [y1,y2]):=zH (own_lit (base:=w1.heap.size) w1 5 1 2 #[byV y1,byV y2] (Nat.le_refl _) (by simp[maxLen]) rfl)
  have HB2:=zH (hB1.chg hA2 (by simp));have d1:(w1.alloc (.cells #[.int .u8 (y1:Int),.int .u8 (y2:Int)] 5)).cell? ⟨w.heap.size,1,none⟩=some (.int .i64 (x2:Int)):=HB2.out.cell 1;obtain⟨q4,t4⟩:=HQ4.out;clear p0 p1 q1 q2 q3 t1 t2 t3 v1 v3 u1 u2 u3 u4 u5 hA2 hB1;go_wp2_with fail
  refine (F4.out _).mono ?_;rintro e w3 ⟨v3,rfl,ho3,hc3⟩;have HO3:=zH (own_chg HO2.out hc3 (by simp));have HT3:=zH (OwY.sl (B:=(w1.alloc (.cells #[byV y1,byV y2] 5)).heap.size) ho3);have HB3:=zH (HB2.out.chg hc3 (by simp));have HD3:=zH (HD2.out.trans hc3);have hz3:=HD3.out.size
  have hl3:=zH (own_lt HO3.out);clear F4 ho3 hc3 HO2 HB2 HD2 d1 q4 t4 HQ4;go_upto_region 5 with (first
   |(at_builtin;refine wpList_app elY rfl (.tmp 22) (.tmp 26) rfl w1.heap.size rfl HO3.out rfl HT3.out (byV_one _) (by simp[maxLen,twoS]) (by simp[twoS]) hz3 ?_;intro v4 w4 hown4 hc4 hb4)
   |fail)
  have HB4:=zH (HB3.out.chg hc4 (fun hm=>by have:=(hl3.out _ hm).1;omega));have HD4:=zH (HD3.out.trans' hc4 (fun x hx=>.inr (hl3.out x hx).1));have HO4:=zH (OwY.snoc (l:=[y1,y2]) (m:=twoS a4) rfl hown4);have d2:w4.cell? ⟨w.heap.size,2,none⟩=some (.int .i64 (x3:Int)):=HB4.out.cell 2
  clear HO3 HT3 HB3 HD3 hl3 hown4 hc4 hb4;go_wp2_with fail;refine (F3.out _).mono ?_;rintro e w5 ⟨v5,rfl,ho5,hc5⟩;have HO5:=zH (own_chg HO4.out hc5 (by simp));have HT5:=zH (OwY.sl (B:=w4.heap.size) ho5);have HB5:=zH (HB4.out.chg hc5 (by simp));have HD5:=zH (HD4.out.trans hc5);have hz5:=HD5.out.size
  have hl5:=zH (own_lt HO5.out);clear F3 ho5 hc5 HO4 HB4 HD4 d2;go_upto_region 6 with (first
   |(at_builtin;refine wpList_app elY rfl (.tmp 28) (.tmp 31) rfl w1.heap.size rfl HO5.out rfl HT5.out (byV_one _) (by simp[maxLen,twoS]) (by simp[twoS]) hz5 ?_;intro v6 w6 hown6 hc6 hb6)
   |fail)
  have hB6:=HB5.out.chg hc6 (fun hm=>by have:=(hl5.out _ hm).1;omega);have HD6:=zH (HD5.out.trans' hc6 (fun x hx=>.inr (hl5.out x hx).1));have HO6:=zH (OwY.snoc (m:=twoS x3) rfl hown6);have e3:w6.cell? ⟨w.heap.size,3,none⟩=some (.int .i64 nxt):=hB6.cell 3
  have e4:w6.cell? ⟨w.heap.size,4,none⟩=some (.int .i64 hop):=hB6.cell 4;have hA7:=(Chg.refl [] w6).alloc (.cells #[byV (loB nxt),byV (loB hop)] 5);have HB7:=zH (hB6.chg hA7 (by simp));have HO7:=zH (own_chg HO6.out hA7 (by simp))
  have HT7:Hid (Sl (w6.alloc (.cells #[byV (loB nxt),byV (loB hop)] 5)) 0 1 (.slice (some ⟨w6.heap.size,0,none⟩) 2 2) 2 ([loB nxt,loB hop].map byV)):=
   zH (Sl.of_own (own_lit (base:=0) w6 5 1 2 #[byV (loB nxt),byV (loB hop)] (Nat.zero_le _) (by simp[maxLen]) rfl))
  have HD7:=zH (HD6.out.trans hA7);have hz7:=HD7.out.size;have hl7:=zH (own_lt HO7.out);clear HO5 HT5 HB5 HD5 hl5 hown6 hc6 hb6 hA7 HO6 HD6 hB6;go_upto_region 7 with (first
   |(at_builtin;refine wpList_app elY rfl (.tmp 33) (.tmp 40) rfl w1.heap.size rfl HO7.out rfl HT7.out (byV_one _) (by simp[maxLen,twoS]) (by simp[twoS]) hz7 ?_;intro v8 w8 hown8 hc8 hb8)
   |fail)
  have hB8:=HB7.out.chg hc8 (fun hm=>by have:=(hl7.out _ hm).1;omega);have HD8:=zH (HD7.out.trans' hc8 (fun x hx=>.inr (hl7.out x hx).1));have hz8:=HD8.out.size;have HO8:=zH (OwY.snoc (m:=[loB nxt,loB hop]) rfl hown8);have HS8:=zH (sly_part hB8 HPs.out);have hl8:=zH (own_lt HO8.out)
  clear HO7 HT7 HB7 HD7 hl7 hown8 hc8 hb8 e1 e2 e3 e4;go_upto_region 8 with (first
   |(at_builtin;refine wpList_app elY rfl (.tmp 42) (.tmp 44) rfl w1.heap.size rfl HO8.out rfl HS8.out (byV_one _) (by simp[maxLen,twoS,adB_len]) (by simp[twoS,adB_len]) hz8 ?_;intro v9 w9 hown9 hc9 hb9)
   |fail)
  have hB9:=hB8.chg hc9 (fun hm=>by have:=(hl8.out _ hm).1;omega);have HD9:=zH (HD8.out.trans' hc9 (fun x hx=>.inr (hl8.out x hx).1));have hz9:=HD9.out.size;have HO9:=zH (OwY.snoc (m:=adB src) rfl hown9);have HS9:=zH (sly_part hB9 HPd.out);have hl9:=zH (own_lt HO9.out)
  clear HO8 HS8 HD8 hl8 hB8 hown9 hc9 hb9;go_wp2_with (first
   |(at_builtin;refine wpList_app elY rfl (.tmp 46) (.tmp 48) rfl w1.heap.size rfl HO9.out rfl HS9.out (byV_one _) (by simp[maxLen,twoS,adB_len]) (by simp[twoS,adB_len]) hz9 ?_;intro va wa howna hca hba)
   |fail)
  go_ret
  refine⟨va,rfl,?_,HC1.out.trans (HD9.out.trans' hca (fun x hx=>.inr (hl9.out x hx).1))⟩;rw[HP.out];exact ownsRow_less (OwY.snoc (m:=adB dst) rfl howna) HC1.out.size
 ·have hp:=HP.out;rw[if_neg hc]at hp;have hce:canE h=2:=by unfold canE;rw[if_neg hc]
  rw[hce]at FC;replace HP:=zH hp;clear hp hce hc;go_enter Tryz.func76,Tryz.ntmps76
  go_wp2_with (first
   |(refine zl rfl 26 (.tmp 1) rfl hB rfl _ Tryz.underlying26 rfl infH ?_)
   |fail)
  refine (FC.out _).mono ?_;rintro e w1 ⟨rfl,hc1⟩;go_wp2_with fail;go_ret
  exact⟨_,rfl,by rw[HP.out];exact OwY.nil _ _,HA.out.trans hc1⟩
end Go.Proofs.YtgbndaiifbogmaaGreat
