/-
  Small laws and walks on the way to LearnReads: Rh11, Rr13, Rj11. Conditions: each theorem names its own.
-/
import Derived.Test.YtgbndaiifbogmaaGreatY25
import Derived.Test.YtgbndaiifbogmaaGreatY22
import Derived.Test.YtgbndaiifbogmaaGreatY19
import Derived.Test.YtgbndaiifbogmaaGreatY15
set_option linter.unusedVariables false
set_option linter.unusedSimpArgs false
set_option maxRecDepth 100000
set_option maxHeartbeats 8000000
namespace Go.Proofs.YtgbndaiifbogmaaGreat
open Go.RowKit Go.Maps
def headV (x:Ans Hd):Value:=match x with
 |.error n=>.tuple #[.agg arrH0,.int .i64 n]
 |.ok h=>.tuple #[.agg (arrH h),.int .i64 0]
theorem headV_err {x:Ans Hd} {n:Int} (h:x=.error n):Value.tuple #[.agg arrH0,.int .i64 n]=headV x:=by subst h;rfl
theorem headV_ok {x:Ans Hd} {h:Hd} (e:x=.ok h):Value.tuple #[.agg (arrH h),.int .i64 0]=headV x:=by subst e;rfl
theorem rhead_big {w:World} {v:Value} {l:By} (h:SlY w 0 v l) (hb:okB l) (hl:l.length≤9223372036854775807) :
  Calls Tryz.prog 75 #[v] w fun e w'=>e=.returned (headV (headS l))∧Chg [] w w':=by
 obtain⟨A,c,rfl⟩:=h.form;have hA:=(Chg.refl [] w).alloc (.cells arrH0 26);have hB0:Blk (w.alloc (.cells arrH0 26)) w.heap.size 26 arrH0:=Blk.new _ _ _;have FG:=zH (rget_big (h.chg0 hA) hb hl)
 have HX:Hid (headS l=match getH l with | .error e=>.error e | .ok h=>if h.len≠(l.length:Int)-40 then .error 5 else .ok h):=zH rfl;have HE:=zH (fun n (hh:getH l=.error n)=>getH_err hh);unfold getV at FG;generalize headS l=x at *;generalize getH l=y at *;have HA:=zH hA;clear hA h hb
 go_enter Tryz.func75,Tryz.ntmps75
 go_wp2_with fail;refine FG.out.mono ?_;rintro e w1 ⟨rfl,hc1⟩;have hB1:=(hB0.chg hc1 (by simp)).alloc (.cells arrH0 26);have hBh:Blk (w1.alloc (.cells arrH0 26)) w1.heap.size 26 arrH0:=Blk.new _ _ _;have HC1:=zH ((HA.out.trans hc1).alloc (.cells arrH0 26));have hz1:=(HA.out.trans hc1).size
 have hlt:=(hB0.chg hc1 (by simp)).lt;clear FG hB0 HA hc1;cases y with
 |error n=>
  have hn:=HE.out n rfl;have hX:=zH HX.out;simp only at hX;have hI:(n==0)=false:=by simpa using hn
  clear HX HE hn;go_wp2_with (first
   |(refine zs (vs:=arrH0) rfl 26 (.tmp 4) (.tmp 9) rfl rfl hBh rfl rfl rfl infH0 rfl ?_;intro wc hBc hcc;have hBd:=hB1.chg hcc (by simp;omega))
   |(refine zl rfl 26 (.tmp 4) rfl hBc rfl _ Tryz.underlying26 rfl infH0 ?_)
   |(refine zs (vs:=arrH0) rfl 26 (.tmp 2) (.tmp 22) rfl rfl hBd rfl rfl rfl infH0 rfl ?_;intro wd hBe hcd)
   |fail)
  refine bodyPost_ret (zr rfl rfl hBe _ Tryz.underlying26 rfl infH0) rfl ?_;exact⟨congrArg _ (headV_err hX.out),(HC1.out.trans' hcc (zN (by omega))).trans' hcd (zN (by omega))⟩
 |ok h=>
  have hX:=HX.out;simp only at hX;have hw:IntKind.i64.wrap ((l.length:Int)-40)=(l.length:Int)-40:=by rw[IntKind.wrap_i64];omega
  clear HX HE;by_cases hlen:h.len=(l.length:Int)-40
  ·rw[if_neg (by simpa using hlen)]at hX;replace hX:=zH hX;have hI:(h.len !=(l.length:Int)-40)=false:=by simpa using hlen
   clear hlen;go_wp2_with (first
    |(refine zs (vs:=arrH h) rfl 26 (.tmp 4) (.tmp 9) rfl rfl hBh rfl rfl rfl infH rfl ?_;intro wc hBc hcc;have hBd:=hB1.chg hcc (by simp;omega);have q2:wc.cell? ⟨w1.heap.size,2,none⟩=some (.int .i64 h.len):=hBc.cell 2)
    |(refine zl rfl 26 (.tmp 4) rfl hBc rfl _ Tryz.underlying26 rfl infH ?_)
    |(refine zs (vs:=arrH h) rfl 26 (.tmp 2) (.tmp 22) rfl rfl hBd rfl rfl rfl infH rfl ?_;intro wd hBe hcd)
    |fail)
   refine bodyPost_ret (zr rfl rfl hBe _ Tryz.underlying26 rfl infH) rfl ?_;exact⟨congrArg _ (headV_ok hX.out),(HC1.out.trans' hcc (zN (by omega))).trans' hcd (zN (by omega))⟩
  ·rw[if_pos hlen]at hX;replace hX:=zH hX;have hI:(h.len !=(l.length:Int)-40)=true:=by simpa using hlen
   clear hlen;go_wp2_with (first
    |(refine zs (vs:=arrH h) rfl 26 (.tmp 4) (.tmp 9) rfl rfl hBh rfl rfl rfl infH rfl ?_;intro wc hBc hcc;have hBd:=hB1.chg hcc (by simp;omega);have q2:wc.cell? ⟨w1.heap.size,2,none⟩=some (.int .i64 h.len):=hBc.cell 2)
    |(refine zs (vs:=arrH0) rfl 26 (.tmp 2) (.tmp 21) rfl rfl hBd rfl rfl rfl infH0 rfl ?_;intro wd hBe hcd)
    |fail)
   refine bodyPost_ret (zr rfl rfl hBe _ Tryz.underlying26 rfl infH0) rfl ?_;exact⟨congrArg _ (headV_err hX.out),(HC1.out.trans' hcc (zN (by omega))).trans' hcd (zN (by omega))⟩
theorem rhead_any {w:World} {v:Value} {l:By} (h:SlY w 0 v l) (hb:okB l) (hl:l.length≤1000000):Calls Tryz.prog 75 #[v] w fun e w'=>e=.returned (headV (headS l))∧Chg [] w w':=rhead_big h hb (by omega)
def hdrS (x:Ans (Hd×Sr×Nat)):Ans (Sr×Nat):=match x with
 |.error n=>.error n
 |.ok (_,s,n)=>.ok (s,n)
theorem rheader_big {w:World} {v:Value} {l:By} (h:SlY w 0 v l) (hb:okB l) (hl:l.length≤9223372036854775807) :
  Calls Tryz.prog 27 #[v] w fun e w'=>SrPost (hdrS (routedS l)) w.heap.size e w'∧Chg [] w w':=by
 obtain⟨A,c,rfl⟩:=h.form;have hA:=(Chg.refl [] w).alloc (.cells arrS0 30);have hB0:Blk (w.alloc (.cells arrS0 30)) w.heap.size 30 arrS0:=Blk.new _ _ _;have FG:=zH (rhead_big (h.chg0 hA) hb hl);have HX:Hid (hdrS (routedS l)=match headS l with
  |.error e=>.error e
  |.ok h=>if h.nxt≠43 then .error 7 else srhS (l.drop 40)):=zH (by
   unfold routedS;cases headS l with
   |error e=>rfl
   |ok h=>
    simp only
    split
    ·rfl
    ·cases srhS (l.drop 40) with
     |error e=>rfl
     |ok r=>obtain⟨s,n⟩:=r;rfl)
 have HF:=zH (fun h (k:headS l=.ok h)=>And.intro (headS_fine k hb).2.2.1 (headS_len k hb));have HE:=zH (fun n (hh:headS l=.error n)=>headS_err hh);have HS:=zH (fun W (hc:Chg [] w W)=>h.chg0 hc);have HOK:=zH hb;unfold headV at FG;generalize hdrS (routedS l)=x at *;generalize headS l=y at *
 have HA:=zH hA;clear hA h hb;go_enter Tryz.func27,Tryz.ntmps27
 go_wp2_with fail;refine FG.out.mono ?_;rintro e w1 ⟨rfl,hc1⟩;have hB1:=(hB0.chg hc1 (by simp)).alloc (.cells arrH0 26);have hBh:Blk (w1.alloc (.cells arrH0 26)) w1.heap.size 26 arrH0:=Blk.new _ _ _;have HC1:=zH ((HA.out.trans hc1).alloc (.cells arrH0 26));have hz1:=(HA.out.trans hc1).size
 have hlt:=(hB0.chg hc1 (by simp)).lt;clear FG hB0 HA hc1;cases y with
 |error n=>
  have hn:=HE.out n rfl;have hX:=zH HX.out;simp only at hX;have hI:(n !=0)=true:=by simpa using hn
  clear HX HE HF hn;go_wp2_with (first
   |(refine zs (vs:=arrH0) rfl 26 (.tmp 5) (.tmp 10) rfl rfl hBh rfl rfl rfl infH0 rfl ?_;intro wc hBc hcc;have hBd:=hB1.chg hcc (by simp;omega))
   |(refine zs (vs:=arrS0) rfl 30 (.tmp 2) (.tmp 14) rfl rfl hBd rfl rfl rfl infS0 rfl ?_;intro wd hBe hcd)
   |fail)
  refine bodyPost_ret (results_blk3 rfl rfl hBe _ Tryz.underlying30 rfl infS0) rfl ?_;exact⟨SrPost.err hX.out,(HC1.out.trans' hcc (zN (by omega))).trans' hcd (zN (by omega))⟩
 |ok h=>
  obtain⟨h40,hlS⟩:=HF.out h rfl;have hl:l.length≤1000000:=by omega
  clear hlS;have hX:=HX.out;simp only at hX;clear HX HE HF;by_cases hk:h.nxt=43
  ·rw[if_neg (by simpa using hk)]at hX;replace hX:=zH hX;have hI:(h.nxt !=43)=false:=by simpa using hk
   have HS1:=zH (fun W (hc:Chg [] w W)=>cutYf (HS.out W hc) (lo:=40) h40);obtain⟨X,hXr,hXs⟩:=cutYf (HS.out w (Chg.refl _ _)) (lo:=40) h40;have hXr':∀W:World,(Instr.slice 22 (.slice A l.length c) (some (.int .i64 40)) none none).run Tryz.prog W=.ok (.slice X (l.length-40) (c-40)) W:=hXr
   have FP:=zH (fun W (hc:Chg [] w W)=>rsrh_any (hXs.chg0 hc) (HOK.out.drop 40) (by rw[List.length_drop];omega));clear hk HS HOK hXr hXs HS1;go_wp2_with (first
    |(refine zs (vs:=arrH h) rfl 26 (.tmp 5) (.tmp 10) rfl rfl hBh rfl rfl rfl infH rfl ?_;intro wc hBc hcc;have hBd:=hB1.chg hcc (by simp;omega);have q3:wc.cell? ⟨w1.heap.size,3,none⟩=some (.int .i64 h.nxt):=hBc.cell 3)
    |fail)
   have HC2:=zH (HC1.out.trans' hcc (zN (by omega)));clear hBc hcc q3 hB1 hBh HC1;refine (FP.out _ HC2.out).mono ?_;rintro e w4 ⟨hp,hc4⟩;have hB4:=hBd.chg hc4 (by simp);have HC4:=zH (HC2.out.trans hc4);have hzz:=hBd.lt;have hp':SrPost (srhS (l.drop 40)) wc.heap.size e w4:=hp;clear hp FP hBd hc4 HC2
   generalize srhS (l.drop 40)=y at *;cases y with
   |error n=>
    obtain rfl:e=_:=hp';go_wp2_with (first
     |(refine zs (vs:=arrS0) rfl 30 (.tmp 2) (.tmp 23) rfl rfl hB4 rfl rfl rfl infS0 rfl ?_;intro wd hBe hcd)
     |fail)
    refine bodyPost_ret (results_blk3 rfl rfl hBe _ Tryz.underlying30 rfl infS0) rfl ?_;exact⟨SrPost.err hX.out,HC4.out.trans' hcd (zN (by omega))⟩
   |ok r=>
    obtain⟨s,n⟩:=r;obtain⟨sv,A5,m5,c5,rfl,hsd⟩:=hp';obtain⟨A6,c6,rfl⟩:=Sl.form hsd;have HSD:=zH hsd;generalize hm8:s.segs.length=m8 at HSD;clear hsd hm8;go_wp2_with (first
     |(refine zs (vs:=arrSr s (.slice A6 m8 c6) (.slice A5 m5 c5)) rfl 30 (.tmp 2) (.tmp 23) rfl rfl hB4 rfl rfl rfl infSr rfl ?_;intro wd hBe hcd)
     |fail)
    refine bodyPost_ret (results_blk3 rfl rfl hBe _ Tryz.underlying30 rfl infSr) rfl ?_;refine⟨SrPost.ok hX.out ?_,HC4.out.trans' hcd (zN (by omega))⟩;exact (Sl.chg HSD.out hcd (fun y hy=>by simp at hy;subst hy;omega)).less (by omega)
  ·rw[if_pos hk]at hX;replace hX:=zH hX;have hI:(h.nxt !=43)=true:=by simpa using hk
   clear hk HS HOK;go_wp2_with (first
    |(refine zs (vs:=arrH h) rfl 26 (.tmp 5) (.tmp 10) rfl rfl hBh rfl rfl rfl infH rfl ?_;intro wc hBc hcc;have hBd:=hB1.chg hcc (by simp;omega);have q3:wc.cell? ⟨w1.heap.size,3,none⟩=some (.int .i64 h.nxt):=hBc.cell 3)
    |(refine zs (vs:=arrS0) rfl 30 (.tmp 2) (.tmp 19) rfl rfl hBd rfl rfl rfl infS0 rfl ?_;intro wd hBe hcd)
    |fail)
   refine bodyPost_ret (results_blk3 rfl rfl hBe _ Tryz.underlying30 rfl infS0) rfl ?_;exact⟨SrPost.err hX.out,(HC1.out.trans' hcc (zN (by omega))).trans' hcd (zN (by omega))⟩
theorem rheader_any {w:World} {v:Value} {l:By} (h:SlY w 0 v l) (hb:okB l) (hl:l.length≤1000000):Calls Tryz.prog 27 #[v] w fun e w'=>SrPost (hdrS (routedS l)) w.heap.size e w'∧Chg [] w w':=rheader_big h hb (by omega)
end Go.Proofs.YtgbndaiifbogmaaGreat
namespace Go.Proofs.YtgbndaiifbogmaaGreat
open Go.RowKit Go.Maps
theorem infPkD {p:Pm}:(Tryz.prog.info? 42).map (·.size)=some (arrPk p).size:=by
 show _=some 76;kernel_rfl
def RtPost13 (x:Ans (Option Sr×Ad)) (p:Pm) (B:Nat) (e:Ending) (w':World):Prop:=match x with
 |.error n=>∃cs:Array Value,cs.size=76∧cs.toList.all (·.oneCell')=true∧e=.returned (.tuple #[.agg cs,.int .i64 n])
 |.ok (none,f)=>e=.returned (.tuple #[.agg (arrPk {p with f:=f}),.int .i64 0])
 |.ok (some s,f)=>∃sv A m c,e=.returned (.tuple #[.agg (arrPk {p with rt:=true,s:=s,sv:=sv,tv:=.slice A m c,f:=f}),.int .i64 0])∧SlD w' B sv s.segs
theorem RtPost13.err {x:Ans (Option Sr×Ad)} {p:Pm} {B:Nat} {w':World} {n:Int} {cs:Array Value} (h:x=.error n) (hz:cs.size=76) (ho:cs.toList.all (·.oneCell')=true):RtPost13 x p B (.returned (.tuple #[.agg cs,.int .i64 n])) w':=by subst h;exact⟨cs,hz,ho,rfl⟩
theorem RtPost13.none {x:Ans (Option Sr×Ad)} {p:Pm} {B:Nat} {w':World} {f:Ad} (h:x=.ok (none,f)):RtPost13 x p B (.returned (.tuple #[.agg (arrPk {p with f:=f}),.int .i64 0])) w':=by subst h;rfl
def rtS (b:By) (h:Hd) (L:List Pt):Ans (Option Sr×Ad):=if lateW L=true then .error 7 else routeS b h (firstW L)
theorem late_yes {L:List Pt} {i:Nat} {x:Pt} (h1:1≤i) (hx:L[i]?=some x) (hk:x.kind=43):lateW L=true:=by
 unfold lateW;rw[List.any_eq_true];refine⟨x,?_,by simpa using hk⟩;refine List.mem_of_getElem? (i:=i-1) ?_;rw[List.getElem?_drop,show 1+(i-1)=i by omega];exact hx
theorem late_no {L:List Pt} (h:∀j x,1≤j→L[j]?=some x→x.kind≠43):lateW L=false:=by
 unfold lateW;rw[List.any_eq_false];intro x hx;obtain⟨i,hi⟩:=List.mem_iff_getElem?.1 hx;rw[List.getElem?_drop]at hi;simpa using h (1+i) x (by omega) hi
theorem rroute_any {w:World} {v pv:Value} {l:By} {p:Pm} {L:List Pt} (h:SlY w 0 v l) (hb:okB l) (hl:l.length≤1000000) (h40:40≤l.length) (hL:0<L.length) (hLn:L.length≤100) (hp:Sl w 0 3 pv L.length (L.flatMap encP))
  (hd:okA p.h.dst) (ho:(arrPk p).toList.all (·.oneCell')=true) :
  Calls Tryz.prog 43 #[.agg (arrPk p),v,pv] w fun e w'=>RtPost13 (rtS l p.h L) p w.heap.size e w'∧Chg [] w w':=by
 obtain⟨A,c,rfl⟩:=h.form;obtain⟨A2,c2,rfl⟩:=Sl.form hp;have hA:=((Chg.refl [] w).alloc (.cells (arrPk p) 42)).alloc (.cells (arrPk pm0) 42);have hB:Blk ((w.alloc (.cells (arrPk p) 42)).alloc (.cells (arrPk pm0) 42)) w.heap.size 42 (arrPk p):=(Blk.new _ _ _).alloc _
 have hR:Blk ((w.alloc (.cells (arrPk p) 42)).alloc (.cells (arrPk pm0) 42)) (w.heap.size+1) 42 (arrPk pm0):=Blk.new' (by simp);have HA:=zH hA;have HX:Hid (rtS l p.h L=if lateW L=true then .error 7 else routeS l p.h (firstW L)):=zH rfl
 have HROW:Hid (∃b o,A2=some ⟨b,o,none⟩∧∀W,Chg [] w W→∀i x,L[i]?=some x→W.cell? ⟨b,o+i*3,none⟩=some (.int .i64 x.kind)):=zH (by
  obtain⟨b,o,c',hv,_,_,_⟩:=Sl.at_ hp hL (by omega);simp only[Value.slice.injEq]at hv;refine⟨b,o,hv.1,fun W hc i x hi=>?_⟩;obtain⟨b',o',c'',hv',_,_,hx⟩:=Sl.rec encP_len (by omega) hp hi;simp only[Value.slice.injEq]at hv';have e:=hv.1.symm.trans hv'.1
  simp only[Option.some.injEq,Addr.mk.injEq,and_true]at e;obtain⟨rfl,rfl⟩:=e;have h0:=hx 0 (by omega);rw[Nat.add_zero]at h0;exact hc.cell h0 (by simp))
 obtain⟨N,hN⟩:∃N,N=L.length:=⟨_,rfl⟩;have HLN:=zH hN;rw[←hN]at hL hLn ⊢;have HS:=zH (fun W (hc:Chg [] w W)=>h.chg0 hc);have HOK:=zH hb;have HHD:=zH hd;obtain⟨b,o,rfl,hrow⟩:=HROW.out;have HROW2:=zH hrow;generalize rtS l p.h L=x at *;clear hA h hb hp hN hrow HROW hd;go_enter Tryz.func43,Tryz.ntmps43
 go_upto_region 2 with (first
  |(refine wpList_load_part (vs:=arrA p.h.dst) rfl 24 (.tmp 13) rfl hB 21 rfl _ Tryz.underlying24 rfl infAd (pk_dst p) ?_)
  |(refine wpList_store_part (vs:=arrA p.h.dst) rfl 24 (.tmp 15) (.tmp 14) rfl rfl hB 44 rfl rfl (by show 44+16≤76;omega) infAd rfl (pk_fin p p.h.dst) ?_;intro wb hBb hcb)
  |fail)
 have hRb:=hR.chg hcb (by simp);have HCb:=zH (HA.out.trans' hcb (zN (by omega)));have hltb:=hRb.lt;have HBb:=zH hBb;have HRb:=zH hRb;clear hB hR hcb HA hBb hRb;go_wp2_with fail;go_loop [8] (fun iv=>∃i:Nat,1≤i∧i≤N∧iv=.int .i64 i∧Hid (∀j x,1≤j→j<i→L[j]?=some x→x.kind≠43)) (fun iv=>N-(intOf iv).toNat)
 case atStart=>exact⟨1,by omega,by omega,rfl,zH (fun j x h1 h2=>by omega)⟩
 case round=>
  obtain⟨i,hi1,hiN,rfl,HJ⟩:=hrel;by_cases hlt:i<N
  ·obtain⟨y,hy⟩:∃y,L[i]?=some y:=⟨_,List.getElem?_eq_getElem (by have:=HLN.out;omega)⟩;have hc:=HROW2.out wb HCb.out i y hy;have iI:(i:Int)<(N:Int):=by omega
   have ei:IntKind.i64.wrap ((i:Int)+1)=(i:Int)+1:=by rw[IntKind.wrap_i64];omega
   by_cases hk:y.kind=43
   ·have hlate:=late_yes hi1 hy hk;have hX:=HX.out;rw[if_pos hlate]at hX;replace hX:=zH hX;rw[hk]at hc;have hBb:=HBb.out;have hRb:=HRb.out;clear HX HROW2 HS hy hlate hk HJ;go_wp2_with (first
     |(refine zl rfl 42 (.tmp 3) rfl hBb rfl _ Tryz.underlying42 rfl infPkD ?_)
     |(refine zs (vs:=arrPk {p with f:=p.h.dst}) rfl 42 (.tmp 6) (.tmp 28) rfl rfl hRb rfl rfl rfl infPkD ho ?_;intro w9 hB9 hc9)
     |fail)
    refine bodyPost_ret (zr rfl rfl hB9 _ Tryz.underlying42 rfl infPkD) rfl ?_;exact⟨RtPost13.err hX.out rfl ho,HCb.out.trans' hc9 (zN (by omega))⟩
   ·have HJ2:Hid (∀j x,1≤j→j<i+1→L[j]?=some x→x.kind≠43):=zH (fun j x h1 h2 h3=>by
     rcases Nat.lt_or_ge j i with q|q
     ·exact HJ.out j x h1 q h3
     ·obtain rfl:j=i:=by omega
      rw[hy]at h3;injection h3 with h3
      subst h3;exact hk)
    have kI:(y.kind==43)=false:=by simpa using hk
    clear HX HROW2 HS hy hk HJ;go_wp2_with fail;go_round
    case rel=>exact⟨i+1,by omega,by omega,by go_num,HJ2⟩
    case measure=>simp[intOf];omega
  obtain rfl:i=N:=by omega
  have iI:¬(i:Int)<(i:Int):=by omega
  have hlate:lateW L=false:=late_no (fun j x h1 h2=>HJ.out j x h1 (by have:=(List.getElem?_eq_some_iff.1 h2).1;have:=HLN.out;omega) h2);have hX:=HX.out;rw[if_neg (by rw[hlate];simp)]at hX;obtain⟨y,hy⟩:∃y,L[0]?=some y:=⟨_,List.getElem?_eq_getElem (by have:=HLN.out;omega)⟩
  have hc:=HROW2.out wb HCb.out 0 y hy;rw[Nat.zero_mul,Nat.add_zero]at hc;have hfw:firstW L=(y.kind==43):=by
   unfold firstW;rw[List.headD_eq_head?_getD,List.head?_eq_getElem?,hy];rfl
  rw[hfw]at hX;have HX2:=zH hX;have hBb:=HBb.out;have hRb:=HRb.out;clear hX HX hlate HJ HROW2 hy hfw;generalize y.kind=yk at *;by_cases hk:yk=43
  case neg=>
   have kI:(yk !=43)=true:=by simpa using hk
   have hX:=HX2.out;rw[show (yk==43)=false by simpa using hk]at hX;unfold routeS at hX;rw[if_pos rfl]at hX;replace hX:=zH hX;clear HX2 hk HS;go_wp2_with (first
    |(refine zl rfl 42 (.tmp 3) rfl hBb rfl _ Tryz.underlying42 rfl infPkD ?_)
    |(refine zs (vs:=arrPk {p with f:=p.h.dst}) rfl 42 (.tmp 6) (.tmp 34) rfl rfl hRb rfl rfl rfl infPkD ho ?_;intro w9 hB9 hc9)
    |fail)
   refine bodyPost_ret (zr rfl rfl hB9 _ Tryz.underlying42 rfl infPkD) rfl ?_;exact⟨RtPost13.none hX.out,HCb.out.trans' hc9 (zN (by omega))⟩
  subst hk;have kI:((43:Int) !=43)=false:=rfl;have hX:=HX2.out;rw[show ((43:Int)==43)=true from rfl]at hX;unfold routeS at hX;rw[if_neg (by simp)]at hX;have HX9:=zH hX
  have HO2:Hid (∀(s:Sr) (sv tv:Value) (f:Ad),sv.oneCell'=true→tv.oneCell'=true→(arrPk {p with rt:=true,s:=s,sv:=sv,tv:=tv,f:=f}).toList.all (·.oneCell')=true):=zH (fun s sv tv f h1 h2=>by
   have h3:=ho;simp only[List.all_cons,List.all_nil,Bool.and_eq_true,and_true]at h3 ⊢;simp_all
   repeat (refine⟨rfl,?_⟩)
   rfl)
  obtain⟨X,hXr,hXs⟩:=cutYf (HS.out wb HCb.out) (lo:=40) h40;have hXr':∀W:World,(Instr.slice 22 (.slice A l.length c) (some (.int .i64 40)) none none).run Tryz.prog W=.ok (.slice X (l.length-40) (c-40)) W:=hXr;have FP:=zH (rsrh_any hXs (HOK.out.drop 40) (by rw[List.length_drop];omega))
  have HSF:=zH (fun s n (k:srhS (l.drop 40)=.ok (s,n))=>srhS_fine k);have HSE:=zH (fun n (k:srhS (l.drop 40)=.error n)=>srhS_err k);generalize srhS (l.drop 40)=y at *;clear hX HX2 HS hXr hXs;go_wp2_with fail;refine FP.out.mono ?_;rintro e wc ⟨hp,hcc⟩
  have hBc:=(hBb.chg hcc (by simp)).alloc (.cells arrS0 30);have hRc:=(hRb.chg hcc (by simp)).alloc (.cells arrS0 30);have hSn:Blk (wc.alloc (.cells arrS0 30)) wc.heap.size 30 arrS0:=Blk.new _ _ _;have HCc:=zH ((HCb.out.trans hcc).alloc (.cells arrS0 30));have hzc:=hcc.size
  clear FP hBb hRb HBb HRb hcc hc;cases y with
  |error n=>
   obtain rfl:e=_:=hp;have hn:=HSE.out n rfl;have hX:=HX9.out;simp only at hX;replace hX:=zH hX;have hI:(n !=0)=true:=by simpa using hn
   clear HX9 HSE HSF hn;go_wp2_with (first
    |(refine zs (vs:=arrS0) rfl 30 (.tmp 9) (.tmp 39) rfl rfl hSn rfl rfl rfl infS0 rfl ?_;intro wd hSd hcd;have hBd:=hBc.chg hcd (by simp;omega);have hRd:=hRc.chg hcd (by simp;omega))
    |(refine zl rfl 42 (.tmp 3) rfl hBd rfl _ Tryz.underlying42 rfl infPkD ?_)
    |(refine zs (vs:=arrPk {p with f:=p.h.dst}) rfl 42 (.tmp 6) (.tmp 44) rfl rfl hRd rfl rfl rfl infPkD ho ?_;intro w9 hB9 hc9)
    |fail)
   refine bodyPost_ret (zr rfl rfl hB9 _ Tryz.underlying42 rfl infPkD) rfl ?_;exact⟨RtPost13.err hX.out rfl ho,(HCc.out.trans' hcd (zN (by omega))).trans' hc9 (zN (by omega))⟩
  |ok r=>
   obtain⟨s,k⟩:=r;obtain⟨sv,A3,m3,c3,rfl,hsd⟩:=hp;have HF:=zH (HSF.out s k rfl);obtain⟨A4,c4,rfl⟩:=Sl.form hsd;obtain⟨⟨i1,hli,hil⟩,hok⟩:=HF.out;have hX:=HX9.out;simp only at hX;rw[hli,Int.toNat_natCast]at hX;replace HX9:=zH hX;have hs1:s.segs[i1]?=some (s.segs.getD i1 ad0):=by
    rw[List.getD_eq_getElem?_getD,List.getElem?_eq_getElem hil];rfl
   have hs0:s.segs[0]?=some (s.segs.getD 0 ad0):=by
    rw[List.getD_eq_getElem?_getD,List.getElem?_eq_getElem (show 0<s.segs.length by omega)];rfl
   have hx1:okA (s.segs.getD i1 ad0):=by
    obtain⟨j,hj⟩:=hok _ (List.mem_of_getElem? hs1);rw[hj];exact adAt_ok (HOK.out.drop 40) j
   have he:=fun W=>eq_ad W hx1 HHD.out
   have HE1:=zH he;have HSL:=zH (fun wd (hcd:Chg [wc.heap.size] wc wd) W (hc:Chg [w.heap.size] wd W)=>
    And.intro (SlD.rec (Sl.chg (Sl.new hsd hcd (by intro x hx;simp at hx;omega)) hc (by intro x hx;simp at hx;omega)) hs0).2 (SlD.rec (Sl.chg (Sl.new hsd hcd (by intro x hx;simp at hx;omega)) hc (by intro x hx;simp at hx;omega)) hs1).2)
   have HSD:=zH (fun wd (hcd:Chg [wc.heap.size] wc wd)=>Sl.new hsd hcd (by intro x hx;simp at hx;omega));have hsn:0<s.segs.length:=by omega
   generalize s.segs.getD 0 ad0=f0 at *;generalize s.segs.getD i1 ad0=f1 at *;clear hX he HSF HSE hok hs1 hs0 hsd HF hx1;have hLI:=zH hli;clear hli;generalize hsn9:s.segs.length=sn at *;have HSN:=zH hsn9;clear hsn9;go_upto_region 12 with (first
    |(refine zs (vs:=arrSr s (.slice A4 sn c4) (.slice A3 m3 c3)) rfl 30 (.tmp 9) (.tmp 39) rfl rfl hSn rfl rfl rfl infSr rfl ?_;intro wd hSd hcd;have hBd:=hBc.chg hcd (by simp;omega);have hRd:=hRc.chg hcd (by simp;omega))
    |fail)
   have hcd2:Chg [wc.heap.size] wc wd:=((Chg.refl [wc.heap.size] wc).alloc _).trans hcd;have HSW:=zH (HSL.out wd hcd2);have HSDd:=zH (HSD.out wd hcd2);obtain⟨⟨b3,o3,rfl,_⟩,_⟩:=HSW.out wd (Chg.refl _ _);have HS0:=zH (fun W (hc:Chg [w.heap.size] wd W)=>by
    obtain⟨⟨b',o',e',hr⟩,_⟩:=HSW.out W hc;simp only[Option.some.injEq,Addr.mk.injEq,and_true]at e';obtain⟨rfl,rfl⟩:=e';rw[Nat.zero_mul,Nat.add_zero]at hr;exact hr)
   have HS1:=zH (fun W (hc:Chg [w.heap.size] wd W)=>by
    obtain⟨_,⟨b',o',e',hr⟩⟩:=HSW.out W hc;simp only[Option.some.injEq,Addr.mk.injEq,and_true]at e';obtain⟨rfl,rfl⟩:=e';exact hr)
   have HCd:=zH (HCc.out.trans' hcd (zN (by omega)));have RS:=zH (fun W (hc:Chg [w.heap.size] wd W)=>(hSd.chg hc (by simp;omega)).rangeQ);have C4:=zH (fun W (hc:Chg [w.heap.size] wd W)=>(hSd.chg hc (by simp;omega)).cell 4)
   have C1:Hid (∀W,Chg [w.heap.size] wd W→W.cell? ⟨wc.heap.size,1,none⟩=some (.int .i64 (i1:Int))):=zH (fun W hc=>by
    have:=(hSd.chg hc (by simp;omega)).cell 1;rw[show ((arrSr s (.slice (some ⟨b3,o3,none⟩) sn c4) (.slice A3 m3 c3))[1]?)=some (.int .i64 s.left) from rfl,hLI.out]at this;exact this)
   have HBd:=zH hBd;have hD:Chg [w.heap.size] wd wd.drew:=(Chg.refl _ wd).drew;have hI0:(0:Int)<(sn:Int):=by omega
   have hI1:(i1:Int)<(sn:Int):=by omega
   clear hSn hSd hBc hRc hcd hcd2 HSL HSD HSW HCc hBd;refine wp_region_noPanic ?_;refine wp_region_held_drew (S:=fun W:World=>Chg [w.heap.size] wd W) (by kernel_rfl) hD (fun _=>?_)
   refine zT 0 rfl (yields_row (by rfl) 30 (.tmp 9) rfl wc.heap.size 0 rfl (arrSr s (.slice (some ⟨b3,o3,none⟩) sn c4) (.slice A3 m3 c3)) _ RS.out Tryz.underlying30 rfl infSr) ?_
   try simp only[zP]
   refine zU 1 rfl (by go_simp<;>with_reducible rfl) ?_
   try simp only[zP]
   refine zT 2 rfl (zc (by rfl) 27 (.tmp 47) rfl wc.heap.size 4 rfl (.slice (some ⟨b3,o3,none⟩) sn c4) _ C4.out Tryz.underlying27 rfl) ?_
   try simp only[zP]
   refine zU 3 rfl (by go_simp<;>with_reducible rfl) ?_
   try simp only[zP]
   refine zT 4 rfl (yields_row (by rfl) 24 (.tmp 49) rfl b3 o3 rfl (arrA f0) _ HS0.out Tryz.underlying24 rfl infAd) ?_
   try simp only[zP]
   refine zU 5 rfl (by go_simp<;>with_reducible rfl) ?_
   try simp only[zP]
   refine zR 6 rfl (fun K hK=>?_);refine step_store_cell (v:=.bool true) rfl 4 (.tmp 51) (.const (.bool true)) rfl HBd.out.drew rfl rfl rfl (by show _<76;omega) (by kernel_rfl) rfl ?_;intro we hB4 hc4;have hC4:(fun W:World=>Chg [w.heap.size] wd W) we:=hD.trans hc4
   have hB5:Blk we w.heap.size 42 (arrPk {p with f:=p.h.dst,rt:=true}):=hB4;clear hc4 hB4;refine zB hK ?_;clear hK K
   try simp only[zP]
   refine zU 7 rfl (by go_simp<;>with_reducible rfl) ?_
   try simp only[zP]
   refine zR 8 rfl (fun K hK=>?_);refine step_store_part (vs:=arrSr s (.slice (some ⟨b3,o3,none⟩) sn c4) (.slice A3 m3 c3)) rfl 30 (.tmp 52) (.tmp 46) rfl hB5 38 rfl rfl (by show 38+6≤76;omega) infSr rfl (pk_srh _ s _ _) ?_;intro wf hB6 hc6
   have hC6:(fun W:World=>Chg [w.heap.size] wd W) wf:=Chg.trans hC4 hc6;clear hc6;refine zB hK ?_;clear hK K
   try simp only[zP]
   refine zU 9 rfl (by go_simp<;>with_reducible rfl) ?_
   try simp only[zP]
   refine zR 10 rfl (fun K hK=>?_);refine step_store_part (vs:=arrA f0) rfl 24 (.tmp 53) (.tmp 50) rfl hB6 44 rfl rfl (by show 44+16≤76;omega) infAd rfl (pk_fin _ f0) ?_;intro wg hB7 hc7;have hC7:(fun W:World=>Chg [w.heap.size] wd W) wg:=Chg.trans hC6 hc7;clear hc7;refine zB hK ?_;clear hK K
   try simp only[zP]
   refine wpAnyH_done (by kernel_rfl) ?_ _;refine NoPanic.normal ?_;have HB8:Hid (Blk wg w.heap.size 42 (arrPk {p with rt:=true,s:=s,sv:=.slice (some ⟨b3,o3,none⟩) sn c4,tv:=.slice A3 m3 c3,f:=f0})):=zH hB7;have HCg:=zH (HCd.out.trans' hC7 (zN (by omega)));have hRg:=hRd.chg hC7 (by simp)
   have HSg:Hid (SlD wg wb.heap.size (.slice (some ⟨b3,o3,none⟩) sn c4) s.segs):=zH (by
    unfold SlD;rw[HSN.out];exact Sl.chg HSDd.out hC7 (by intro x hx;simp at hx;omega))
   have T4:=zH (fun W (hc:Chg [] wg W)=>C4.out W (Chg.trans hC7 (hc.more (by simp))));have T1:=zH (fun W (hc:Chg [] wg W)=>C1.out W (Chg.trans hC7 (hc.more (by simp))));have T5:=zH (fun W (hc:Chg [] wg W)=>HS1.out W (Chg.trans hC7 (hc.more (by simp))))
   have T8:=zH (fun W (hc:Chg [] wg W)=>(HB8.out.chg hc (by simp)).part (o:=21) (arrA p.h.dst).toList (pk_dst _));clear hD hB5 hB6 hB7 hC4 hC6 hC7 HBd RS C4 C1 HS0 HS1 HCd hRd HSDd;go_upto_region 13 with fail
   have hD:Chg [] wg wg.drew:=(Chg.refl _ wg).drew;refine wp_region_noPanic ?_;refine wp_region_held_drew (S:=fun W:World=>Chg [] wg W) (by kernel_rfl) hD (fun _=>?_);refine zU 0 rfl (by go_simp<;>with_reducible rfl) ?_
   try simp only[zP]
   refine zT 1 rfl (zc (by rfl) 27 (.tmp 54) rfl wc.heap.size 4 rfl (.slice (some ⟨b3,o3,none⟩) sn c4) _ T4.out Tryz.underlying27 rfl) ?_
   try simp only[zP]
   refine zU 2 rfl (by go_simp<;>with_reducible rfl) ?_
   try simp only[zP]
   refine zT 3 rfl (zc (by rfl) 3 (.tmp 56) rfl wc.heap.size 1 rfl (.int .i64 (i1:Int)) _ T1.out Tryz.underlying3 rfl) ?_
   try simp only[zP]
   refine zU 4 rfl (by go_simp<;>with_reducible rfl) ?_
   try simp only[zP]
   refine zT 5 rfl (yields_row (by rfl) 24 (.tmp 58) rfl b3 (o3+i1*16) rfl (arrA f1) _ T5.out Tryz.underlying24 rfl infAd) ?_
   try simp only[zP]
   refine zU 6 rfl (by go_simp<;>with_reducible rfl) ?_
   try simp only[zP]
   refine zU 7 rfl (by go_simp<;>with_reducible rfl) ?_
   try simp only[zP]
   refine zT 8 rfl (yields_row (by rfl) 24 (.tmp 61) rfl w.heap.size 21 rfl (arrA p.h.dst) _ T8.out Tryz.underlying24 rfl infAd) ?_
   try simp only[zP]
   refine zR 9 rfl (fun K hK=>?_);refine step_run (v:=.bool (!decide (f1=p.h.dst))) (w':=wg.drew) rfl (by have he:=HE1.out;go_simp<;>simp[he]) ?_;refine zB hK ?_;clear hK K
   try simp only[zP]
   refine wpAnyH_done (by kernel_rfl) ?_ _;refine NoPanic.normal ?_;have hB9:=HB8.out.drew;have hRh:=hRg.drew;have HCh:=zH (HCg.out.trans hD);have HSh:=zH (Sl.chg0 HSg.out hD);clear hD T4 T1 T5 T8 HE1 hRg HSg HCg HB8;generalize wg.drew=wh at *;by_cases hf:f1=p.h.dst
   ·have hX:=HX9.out;rw[if_neg (by simpa using hf)]at hX;replace hX:=zH hX;rw[decide_eq_true hf];clear HX9 hf;go_wp2_with (first
     |(refine zl rfl 42 (.tmp 3) rfl hB9 rfl _ Tryz.underlying42 rfl infPkD ?_)
     |(refine zs (vs:=arrPk {p with rt:=true,s:=s,sv:=.slice (some ⟨b3,o3,none⟩) sn c4,tv:=.slice A3 m3 c3,f:=f0}) rfl 42 (.tmp 6) (.tmp 65) rfl rfl hRh rfl rfl rfl infPkD (HO2.out s (.slice (some ⟨b3,o3,none⟩) sn c4) (.slice A3 m3 c3) f0 rfl rfl) ?_;intro wi hBi hci)
     |fail)
    refine bodyPost_ret (zr rfl rfl hBi _ Tryz.underlying42 rfl infPkD) rfl ?_;refine⟨?_,HCh.out.trans' hci (zN (by omega))⟩;rw[hX.out];exact⟨_,_,_,_,rfl,(Sl.chg HSh.out hci (by intro x hx;simp at hx;omega)).less (by omega)⟩
   ·have hX:=HX9.out;rw[if_pos hf]at hX;replace hX:=zH hX;rw[decide_eq_false hf];clear HX9 hf;go_wp2_with (first
     |(refine zl rfl 42 (.tmp 3) rfl hB9 rfl _ Tryz.underlying42 rfl infPkD ?_)
     |(refine zs (vs:=arrPk {p with rt:=true,s:=s,sv:=.slice (some ⟨b3,o3,none⟩) sn c4,tv:=.slice A3 m3 c3,f:=f0}) rfl 42 (.tmp 6) (.tmp 64) rfl rfl hRh rfl rfl rfl infPkD (HO2.out s (.slice (some ⟨b3,o3,none⟩) sn c4) (.slice A3 m3 c3) f0 rfl rfl) ?_;intro wi hBi hci)
     |fail)
    refine bodyPost_ret (zr rfl rfl hBi _ Tryz.underlying42 rfl infPkD) rfl ?_;exact⟨RtPost13.err hX.out rfl (HO2.out s (.slice (some ⟨b3,o3,none⟩) sn c4) (.slice A3 m3 c3) f0 rfl rfl),HCh.out.trans' hci (zN (by omega))⟩
end Go.Proofs.YtgbndaiifbogmaaGreat
namespace Go.Proofs.YtgbndaiifbogmaaGreat
open Go.RowKit Go.Maps
theorem routedS_head {b:By} {h:Hd} {s:Sr} {n:Nat} (k:routedS b=.ok (h,s,n)):headS b=.ok h:=by
 unfold routedS at k;split at k
 ·cases k
 ·rename_i h' hh;split at k
  ·cases k
  ·split at k
   ·cases k
   ·simp only[Except.ok.injEq,Prod.mk.injEq]at k;obtain⟨rfl,-,-⟩:=k;exact hh
theorem putH_le (h:Hd):(putH h).length≤40:=by
 unfold putH;split
 ·simp[fourS,twoB,adB_len]
 ·simp
def RvPost (x:Ans By) (B:Nat) (e:Ending) (w':World):Prop:=match x with
 |.error n=>e=.returned (.tuple #[.slice none 0 0,.int .i64 n])
 |.ok y=>∃v,e=.returned (.tuple #[v,.int .i64 0])∧OwY w' B v y
theorem RvPost.err {x:Ans By} {B:Nat} {w':World} {n:Int} (h:x=.error n):RvPost x B (.returned (.tuple #[.slice none 0 0,.int .i64 n])) w':=by subst h;rfl
theorem RvPost.ok {x:Ans By} {B:Nat} {w':World} {y:By} {v:Value} (h:x=.ok y) (ho:OwY w' B v y):RvPost x B (.returned (.tuple #[v,.int .i64 0])) w':=by subst h;exact⟨v,rfl,ho⟩
theorem rremove_any {w:World} {v:Value} {l:By} (h:SlY w 0 v l) (hb:okB l) (hl:l.length≤1000000) :
  Calls Tryz.prog 25 #[v] w fun e w'=>RvPost (remS l) w.heap.size e w'∧Chg [] w w':=by
 obtain⟨A,c,rfl⟩:=h.form;have FR:=zH (rheader_any h hb hl);have HX:Hid (remS l=match routedS l with | .error e=>.error e | .ok (h,s,n)=>.ok (joinS {h with nxt:=s.nxt,dst:=s.segs.getD 0 ad0} (l.drop (40+n)))):=zH rfl;have HF:=zH (fun h s n (k:routedS l=.ok (h,s,n))=>routedS_fine k hb)
 have HE:=zH (fun n (k:routedS l=.error n)=>routedS_err k);have HHD:=zH (fun h s n (k:routedS l=.ok (h,s,n))=>routedS_head k);have FH:=zH (fun W (hc:Chg [] w W)=>rhead_any (h.chg0 hc) hb hl);have HS:=zH (fun W (hc:Chg [] w W)=>h.chg0 hc);have HOK:=zH hb;generalize remS l=x at *
 generalize routedS l=y at *;clear h hb;go_enter Tryz.func25,Tryz.ntmps25
 go_wp2_with fail;refine FR.out.mono ?_;rintro e w1 ⟨hp,hc1⟩;have hB1:Blk (w1.alloc (.cells arrS0 30)) w1.heap.size 30 arrS0:=Blk.new _ _ _;have hz1:=hc1.size;have HC1:=zH hc1;have HD1:=zH ((Chg.refl [w1.heap.size] w1).alloc (.cells arrS0 30));clear FR hc1;cases y with
 |error n=>
  obtain rfl:e=_:=hp;have hn:=HE.out n rfl;have hX:=zH HX.out;simp only at hX;have hI:(n !=0)=true:=by simpa using hn
  clear HX HE HF HHD FH HS HOK hn;go_wp2_with (first
   |(refine zs (vs:=arrS0) rfl 30 (.tmp 4) (.tmp 12) rfl rfl hB1 rfl rfl rfl infS0 rfl ?_;intro wc hBc hcc)
   |fail)
  go_ret2
  exact⟨RvPost.err hX.out,HC1.out.trans' (HD1.out.trans hcc) (zN (by omega))⟩
 |ok r=>
  obtain⟨h,s,n⟩:=r;obtain⟨sv,A5,m5,c5,rfl,hsd⟩:=hp;have hf:=HF.out h s n rfl;have hhd:=HHD.out h s n rfl;rw[hhd]at FH;unfold headV at FH;simp only at FH;obtain⟨A6,c6,rfl⟩:=Sl.form hsd;have hX:=zH HX.out;simp only at hX;obtain⟨i0,_,hi0⟩:=hf.fine.left;have hs0:s.segs[0]?=some (s.segs.getD 0 ad0):=by
   rw[List.getD_eq_getElem?_getD,List.getElem?_eq_getElem (show 0<s.segs.length by omega)];rfl
  have hokx:=hf.ok _ (List.mem_of_getElem? hs0);have hsl:0<s.segs.length:=by omega
  have HSEG:=zH (fun g7 (hg7:w1.heap.size≤g7) W (hc:Chg [w1.heap.size,g7] w1 W)=>(SlD.rec (Sl.new hsd hc (by intro x hx;simp at hx;omega)) hs0).2);have hn40:=hf.len;have hnx:=hf.nx;have hhl:=hf.hl
  have HWF:Hid (wfH {h with nxt:=s.nxt,dst:=s.segs.getD 0 ad0,len:=h.len-n}):=zH ⟨hf.wf.cls,hf.wf.lab,wf64 (n:=h.len-n) (by omega),wf64 (n:=s.nxt) (by omega),hf.wf.hop,hf.wf.src,hokx⟩;generalize s.segs.getD 0 ad0=x0 at *
  have hwl:IntKind.i64.wrap (h.len-(n:Int))=h.len-(n:Int):=by rw[IntKind.wrap_i64];omega
  have HPJ:Hid (putH {h with nxt:=s.nxt,dst:=x0,len:=h.len-n} ++ l.drop (40+n)=joinS {h with nxt:=s.nxt,dst:=x0} (l.drop (40+n))):=zH (by
   rw[putH_join (by rw[List.length_drop];simp only;omega)];rfl)
  have HHL:=zH hhl;clear HX HF HHD hf hi0 hs0 hsd HE hhd hhl;generalize s.segs.length=sn at *;go_wp2_with (first
   |(refine zs (vs:=arrSr s (.slice A6 sn c6) (.slice A5 m5 c5)) rfl 30 (.tmp 4) (.tmp 12) rfl rfl hB1 rfl rfl rfl infSr rfl ?_;intro wc hBc hcc)
   |fail)
  have hdc:=HD1.out.trans hcc;have HCc:=zH (HC1.out.trans' hdc (zN (by omega)));refine (FH.out wc HCc.out).mono ?_;rintro e wd ⟨rfl,hcd⟩;have hBd:=(hBc.chg hcd (by simp)).alloc (.cells arrH0 26);have hBh:Blk (wd.alloc (.cells arrH0 26)) wd.heap.size 26 arrH0:=Blk.new _ _ _
  have hlt:w1.heap.size<wd.heap.size:=(hBc.chg hcd (by simp)).lt;have HDd:=zH ((hdc.trans (hcd.more (by simp))).alloc (.cells arrH0 26));clear FH hcd hcc hdc HCc hBc hB1 HD1;obtain⟨g7,hg7⟩:∃g,g=wd.heap.size:=⟨_,rfl⟩;go_upto_region 5 with (first
   |(refine zs (vs:=arrH h) rfl 26 (.tmp 7) (.tmp 21) rfl rfl hBh rfl rfl rfl infH rfl ?_;intro we hBe hce)
   |fail)
  rw[←hg7]at hBe hce hlt;rw[←hg7];have hS3:=hBd.chg hce (by simp;omega);have HD3:Hid (Chg [w1.heap.size,g7] w1 we):=zH ((HDd.out.more (by simp)).trans (hce.more (by simp)));clear hBd hBh HDd hce hg7;obtain⟨b,o,rfl,_⟩:=HSEG.out g7 (by omega) we HD3.out
  have HSG:=zH (fun W (hc:Chg [w1.heap.size,g7] w1 W)=>by
   obtain⟨b',o',e',hr⟩:=HSEG.out g7 (by omega) W hc;simp only[Option.some.injEq,Addr.mk.injEq,and_true]at e';obtain⟨rfl,rfl⟩:=e';rw[Nat.zero_mul,Nat.add_zero]at hr;exact hr)
  have S0:=zH (fun W (hc:Chg [g7] we W)=>(hS3.chg hc (by simp;omega)).cell 0);have S4:=zH (fun W (hc:Chg [g7] we W)=>(hS3.chg hc (by simp;omega)).cell 4);have R5:=zH (fun W (hc:Chg [g7] we W)=>HSG.out W (HD3.out.trans (hc.more (by simp))));have hI0:(0:Int)<(sn:Int):=by omega
  have hD:Chg [g7] we we.drew:=(Chg.refl _ we).drew;have q2:we.cell? ⟨g7,2,none⟩=some (.int .i64 h.len):=hBe.cell 2;have HB3:=zH hBe;clear HSEG HSG hS3 hBe;refine wp_region_noPanic ?_;refine wp_region_held_drew (S:=fun W:World=>Chg [g7] we W) (by kernel_rfl) hD (fun _=>?_)
  refine zU 0 rfl (by go_simp<;>with_reducible rfl) ?_
  try simp only[zP]
  refine zT 1 rfl (zc (by rfl) 3 (.tmp 23) rfl w1.heap.size 0 rfl (.int .i64 s.nxt) _ S0.out Tryz.underlying3 rfl) ?_
  try simp only[zP]
  refine zU 2 rfl (by go_simp<;>with_reducible rfl) ?_
  try simp only[zP]
  refine zT 3 rfl (zc (by rfl) 27 (.tmp 25) rfl w1.heap.size 4 rfl (.slice (some ⟨b,o,none⟩) sn c6) _ S4.out Tryz.underlying27 rfl) ?_
  try simp only[zP]
  refine zU 4 rfl (by go_simp<;>with_reducible rfl) ?_
  try simp only[zP]
  refine zT 5 rfl (yields_row (by rfl) 24 (.tmp 27) rfl b o rfl (arrA x0) _ R5.out Tryz.underlying24 rfl infAd) ?_
  try simp only[zP]
  refine zU 6 rfl (by go_simp<;>with_reducible rfl) ?_
  try simp only[zP]
  refine zU 8 rfl (by go_simp<;>with_reducible rfl) ?_
  try simp only[zP]
  refine zR 7 rfl (fun K hK=>?_);refine step_run (v:=.int .i64 h.len) (w':=we.drew) rfl (by go_simp) ?_;refine zB hK ?_;clear hK K
  try simp only[zP]
  refine zU 9 rfl (by go_simp<;>with_reducible rfl) ?_
  try simp only[zP]
  refine zU 10 rfl (by go_simp<;>with_reducible rfl) ?_
  try simp only[zP]
  refine zR 11 rfl (fun K hK=>?_);refine step_store_cell (v:=.int .i64 s.nxt) rfl 3 (.tmp 33) (.tmp 24) rfl HB3.out.drew rfl rfl rfl (by show _<37;omega) (by kernel_rfl) rfl ?_;intro wf hB4 hc4;rw[h_nxt]at hB4;have hC4:(fun W:World=>Chg [g7] we W) wf:=hD.trans hc4;clear hc4;refine zB hK ?_
  clear hK K
  try simp only[zP]
  refine zU 12 rfl (by go_simp<;>with_reducible rfl) ?_
  try simp only[zP]
  refine zR 13 rfl (fun K hK=>?_);refine step_store_part (vs:=arrA x0) rfl 24 (.tmp 34) (.tmp 28) rfl hB4 21 rfl rfl (by show 21+16≤37;omega) infAd rfl (h_dst _ x0) ?_;intro wg hB5 hc5;have hC5:(fun W:World=>Chg [g7] we W) wg:=Chg.trans hC4 hc5;clear hc5;refine zB hK ?_;clear hK K
  try simp only[zP]
  refine zU 14 rfl (by go_simp<;>with_reducible rfl) ?_
  try simp only[zP]
  refine zR 15 rfl (fun K hK=>?_);refine step_store_cell (v:=.int .i64 (h.len-n)) rfl 3 (.tmp 35) (.tmp 32) rfl hB5 rfl rfl rfl (by show _<37;omega) (by kernel_rfl) rfl ?_;intro wh hB6 hc6;have hC6:(fun W:World=>Chg [g7] we W) wh:=Chg.trans hC5 hc6;clear hc6;refine zB hK ?_;clear hK K
  try simp only[zP]
  refine wpAnyH_done (by kernel_rfl) ?_ _;refine NoPanic.normal ?_;have hBf:Blk wh g7 26 (arrH {h with nxt:=s.nxt,dst:=x0,len:=h.len-n}):=hB6;have HC6:=zH (HC1.out.trans' (HD3.out.trans (Chg.more hC6 (T:=[w1.heap.size,g7]) (by simp))) (by intro x hx;simp at hx;right;omega))
  clear hC4 hC5 hC6 hB4 hB5 hB6 hD HB3 S0 S4 R5 HD3 HC1 q2;have hwn:IntKind.i64.wrap (40+(n:Int))=40+(n:Int):=by rw[IntKind.wrap_i64];omega
  obtain⟨X,hXr,hXs⟩:=cutYf (HS.out wh HC6.out) (lo:=40+n) hn40;have hXr':∀W:World,(Instr.slice 22 (.slice A l.length c) (some (.int .i64 (40+(n:Int)))) none none).run Tryz.prog W=.ok (.slice X (l.length-(40+n)) (c-(40+n))) W:=fun W=>by
   have:=hXr W;rw[Int.natCast_add]at this;exact this
  have HXS:=zH (fun W (hc:Chg [] wh W)=>hXs.chg0 hc);have R0:=zH (fun W (hc:Chg [] wh W)=>(hBf.chg hc (by simp)).rangeQ);have hD:Chg [] wh wh.drew:=(Chg.refl _ wh).drew;have FJ:=zH (rput_any HWF.out wh.drew);have HPL:=zH (putH_le {h with nxt:=s.nxt,dst:=x0,len:=h.len-n})
  have HDL:Hid ((l.drop (40+n)).length=l.length-(40+n)):=zH (by rw[List.length_drop]);clear hXr hXs;go_upto_region 6 with fail
  refine wp_region_noPanic ?_;refine wp_region_held_drew (S:=fun W:World=>Chg [] wh W) (by kernel_rfl) hD (fun _=>?_);refine zT 0 rfl (yields_row (by rfl) 26 (.tmp 7) rfl g7 0 rfl (arrH {h with nxt:=s.nxt,dst:=x0,len:=h.len-n}) _ R0.out Tryz.underlying26 rfl infH) ?_
  try simp only[zP]
  refine zU 2 rfl (by go_simp<;>with_reducible rfl) ?_
  try simp only[zP]
  refine zU 3 rfl (by go_simp<;>with_reducible rfl) ?_
  try simp only[zP]
  refine zU 4 rfl (by go_simp<;>with_reducible rfl) ?_
  try simp only[zP]
  refine zU 5 rfl (by go_simp<;>with_reducible rfl) ?_
  try simp only[zP]
  refine zR 1 rfl (fun K hK=>?_);go_simp
  refine FJ.out.mono ?_;rintro e wi ⟨v7,rfl,ho7,hc7⟩;have hC7:(fun W:World=>Chg [] wh W) wi:=hD.trans hc7;generalize putH {h with nxt:=s.nxt,dst:=x0,len:=h.len-n} = ph at *;obtain⟨A7,c7,rfl⟩:=Sl.form (Sl.of_own ho7);have hz7:=hc7.size;clear hc7;refine zB hK ?_;clear hK K
  try simp only[zP]
  refine zR 6 rfl (fun K hK=>?_);refine step_app elY rfl (.tmp 37) (.tmp 41) rfl wh.drew.heap.size rfl ho7 rfl (HXS.out _ hC7) (byV_one _) (by have:=HPL.out;rw[HDL.out];unfold maxLen;omega) (by have:=HPL.out;rw[HDL.out];omega) hz7 ?_;intro v8 wj hown8 hc8 hb8
  have hC8:(fun W:World=>Chg [] wh W) wj:=Chg.trans' hC7 hc8 (fun x hx=>.inr (own_lt ho7 x hx).1);have HZ:Hid (OwY wj w.heap.size v8 (ph++l.drop (40+n))):=zH (by
   have:=ownsRow_less (B':=w.heap.size) hown8 (by have:=HC6.out.size;simp;omega);unfold OwY;simpa using this)
  have HCZ:=zH (HC6.out.trans hC8);clear hown8 hc8 hb8;refine zB hK ?_;clear hK K
  try simp only[zP]
  refine zU 7 rfl (by go_simp<;>with_reducible rfl) ?_
  try simp only[zP]
  refine zU 8 rfl (by go_simp<;>with_reducible rfl) ?_
  try simp only[zP]
  refine wpAnyH_done (by kernel_rfl) ?_ _;refine NoPanic.normal ?_;clear hC7 hC8 hD FJ R0 ho7;go_wp2_with fail;go_ret2
  exact⟨RvPost.ok hX.out (by rw[←HPJ.out];exact HZ.out),HCZ.out⟩
end Go.Proofs.YtgbndaiifbogmaaGreat
