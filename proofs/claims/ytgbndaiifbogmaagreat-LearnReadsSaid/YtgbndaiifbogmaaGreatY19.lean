/-
  Small laws and walks on the way to LearnReads: Qi, Qj, Qk. Conditions: each theorem names its own.
-/
import Derived.Test.YtgbndaiifbogmaaGreatY18
import Derived.Test.YtgbndaiifbogmaaGreatY06
set_option linter.unusedVariables false
set_option linter.unusedSimpArgs false
set_option maxRecDepth 100000
set_option maxHeartbeats 8000000
namespace Go.Proofs.YtgbndaiifbogmaaGreat
open Go.RowKit Go.Maps
theorem results_cct {P:Program} {w:World} {g g':Nat} {e e':TypeId} {cs cs':Array Value} {fn:Func} {p q r:Tmp} {ty ty':TypeId} (h:fn.results=#[.cell p ty,.cell q ty',.tmp r]) {tmps:Array Value} (hp:tmps.getD p undef=.pointer (some ⟨g,0,none⟩)) (hq:tmps.getD q undef=.pointer (some ⟨g',0,none⟩)) (hb:Blk w g e cs) (hb':Blk w g' e' cs')
  (d d':TypeDesc) (hu:P.underlying ty=some d) (hu':P.underlying ty'=some d') (hd:d.isRow=true) (hd':d'.isRow=true) (hi:(P.info? ty).map (·.size)=some cs.size) (hi':(P.info? ty').map (·.size)=some cs'.size):(results fn tmps).run P w=.ok (.tuple #[.agg cs,.agg cs',tmps.getD r undef]) w:=by
 have hp':tmps[p]?.getD undef=.pointer (some ⟨g,0,none⟩):=by simpa using hp
 have hq':tmps[q]?.getD undef=.pointer (some ⟨g',0,none⟩):=by simpa using hq
 simp[results,h,hp',hq',asAddr,run_loadVar_blk hb ty d hu hd hi,run_loadVar_blk hb' ty' d' hu' hd' hi']
def RtdPost (x:Ans (Hd×Sr×Nat)) (B:Nat) (e:Ending) (w':World):Prop:=match x with
 |.error n=>e=panE n
 |.ok (h,s,n)=>∃sv A m c,e=.returned (.tuple #[.agg (arrH h),.agg (arrSr s sv (.slice A m c)),.int .i64 (n:Nat)])∧SlD w' B sv s.segs
theorem RtdPost.err {x:Ans (Hd×Sr×Nat)} {B:Nat} {w':World} {n:Int} (h:x=.error n):RtdPost x B (panE n) w':=by subst h;rfl
theorem routed_big {w:World} {v:Value} {l:By} (h:SlY w 0 v l) (hb:okB l) (hl:l.length≤9223372036854775807) :
  Calls Tryz.prog 167 #[v] w fun e w'=>RtdPost (routedS l) w.heap.size e w'∧Chg [] w w':=by
 obtain⟨A,c,rfl⟩:=h.form;have hA:=((Chg.refl [] w).alloc (.cells arrH0 26)).alloc (.cells arrS0 30);have hB0:Blk ((w.alloc (.cells arrH0 26)).alloc (.cells arrS0 30)) w.heap.size 26 arrH0:=(Blk.new _ _ _).alloc _
 have hS0:Blk ((w.alloc (.cells arrH0 26)).alloc (.cells arrS0 30)) (w.heap.size+1) 30 arrS0:=Blk.new' (by simp);have FH:=zH (dhead_big (h.chg0 hA) hb hl);have HX:Hid (routedS l=match headS l with
  |.error e=>.error e
  |.ok h=>if h.nxt≠43 then .error 7 else match srhS (l.drop 40) with | .error e=>.error e | .ok (s,n)=>.ok (h,s,n)):=zH rfl
 have HF:=zH (fun h (k:headS l=.ok h)=>And.intro (headS_fine k hb).2.2.1 (headS_len k hb));have HS:=zH (fun W (hc:Chg [] w W)=>h.chg0 hc);have HOK:=zH hb;generalize routedS l=x at *;generalize headS l=y at *;have HA:=zH hA;clear hA h hb;go_enter Tryz.func167,Tryz.ntmps167
 go_wp2_with fail;refine FH.out.mono ?_;rintro e w1 ⟨hp,hc1⟩;have hB1:=(hB0.chg hc1 (by simp)).alloc (.cells arrH0 26);have hS1:=(hS0.chg hc1 (by simp)).alloc (.cells arrH0 26);have hBh:Blk (w1.alloc (.cells arrH0 26)) w1.heap.size 26 arrH0:=Blk.new _ _ _;have HC0:=zH (HA.out.trans hc1)
 have HC1:=zH ((HA.out.trans hc1).alloc (.cells arrH0 26));have hlt:=(hS0.chg hc1 (by simp)).lt;clear FH hB0 hS0 HA hc1;cases y with
 |error n=>
  obtain rfl:e=_:=hp;have hX:=zH HX.out;simp only at hX;exact⟨rfl,RtdPost.err hX.out,HC0.out⟩
 |ok h=>
  obtain rfl:e=_:=hp;obtain⟨h40,hlS⟩:=HF.out h rfl;have hl:l.length≤1000000:=by omega
  clear hlS;have hX:=HX.out;simp only at hX;replace HX:=zH hX;clear hX HF HC0;by_cases hk:h.nxt=43
  ·have hX:=HX.out;rw[if_neg (by simpa using hk)]at hX;replace HX:=zH hX;have hI:(h.nxt==43)=true:=by simpa using hk
   have FS:=zH (fun W=>so_ok 7 W);clear hX hk;go_upto_region 2 with (first
    |(refine zs (vs:=arrH h) rfl 26 (.tmp 5) (.tmp 10) rfl rfl hBh rfl rfl rfl infH rfl ?_;intro w2 hB2 hc2)
    |fail)
   have hBr:=hB1.chg hc2 (by simp;omega);have hSr:=hS1.chg hc2 (by simp;omega);have HC2:=zH (HC1.out.trans' hc2 (zN (by omega)));have q3:w2.cell? ⟨w1.heap.size,3,none⟩=some (.int .i64 h.nxt):=hB2.cell 3;clear hB1 hS1 hBh hc2 HC1;go_wp2_with fail;refine (FS.out _).mono ?_;rintro e w3 ⟨rfl,hw3⟩
   rw[hw3]at hB2 hBr hSr HC2;have hl3:=hB2.lt;obtain⟨X,hXr,hXs⟩:=cutYf (HS.out w3 HC2.out) (lo:=40) h40;have hXr':∀W:World,(Instr.slice 22 (.slice A l.length c) (some (.int .i64 40)) none none).run Tryz.prog W=.ok (.slice X (l.length-40) (c-40)) W:=hXr
   have FP:=zH (srhp_any hXs (HOK.out.drop 40) (by rw[List.length_drop];omega));have HSE:=zH (fun n (k:srhS (l.drop 40)=.error n)=>srhS_err k);have hz3:=HC2.out.size;clear hw3 FS q3 hXr hXs HS HOK;go_wp2_with fail;refine FP.out.mono ?_;rintro e w4 ⟨hp,hc4⟩
   have hB4:=(hB2.chg hc4 (by simp)).alloc (.cells arrS0 30);have hBr4:=(hBr.chg hc4 (by simp)).alloc (.cells arrS0 30);have hSr4:=(hSr.chg hc4 (by simp)).alloc (.cells arrS0 30);have hBs:Blk (w4.alloc (.cells arrS0 30)) w4.heap.size 30 arrS0:=Blk.new _ _ _
   have HC4:=zH ((HC2.out.trans hc4).alloc (.cells arrS0 30));have hz4:=(HC2.out.trans hc4).size;have hlt4:=(hB2.chg hc4 (by simp)).lt;have hp':SrPost (srhS (l.drop 40)) w3.heap.size e w4:=hp;clear hp FP hB2 hBr hSr hc4 HC2;generalize srhS (l.drop 40)=y at *;cases y with
   |error n=>
    obtain rfl:e=_:=hp';have hn:=HSE.out n rfl;have hX:=HX.out;simp only at hX;replace hX:=zH hX;have FM:=zH (fun W=>must_no hn W);clear HX hn HSE;go_wp2_with (first
     |(refine zs (vs:=arrS0) rfl 30 (.tmp 6) (.tmp 19) rfl rfl hBs rfl rfl rfl infS0 rfl ?_;intro w5 hB5 hc5)
     |fail)
    refine (FM.out _).mono ?_;rintro e w6 ⟨rfl,rfl⟩;exact⟨rfl,RtdPost.err hX.out,HC4.out.trans' hc5 (zN (by omega))⟩
   |ok r=>
    obtain⟨s,n⟩:=r;obtain⟨sv,A5,m5,c5,rfl,hsd⟩:=hp';obtain⟨A6,c6,rfl⟩:=Sl.form hsd;have hX:=HX.out;simp only at hX;replace hX:=zH hX;have FM:=zH (fun W=>must_ok W);have HSD:=zH hsd;clear HX HSE hsd;generalize s.segs.length=sn at *;go_wp2_with (first
     |(refine zs (vs:=arrSr s (.slice A6 sn c6) (.slice A5 m5 c5)) rfl 30 (.tmp 6) (.tmp 19) rfl rfl hBs rfl rfl rfl infSr rfl ?_;intro w5 hB5 hc5)
     |fail)
    refine (FM.out _).mono ?_;rintro e w6 ⟨rfl,hw6⟩;have hB6:=hB4.chg hc5 (by simp;omega);have hBr6:=hBr4.chg hc5 (by simp;omega);have hSr6:=hSr4.chg hc5 (by simp;omega);have HC6:=zH (HC4.out.trans' hc5 (zN (by omega)))
    have HSD6:=zH (Sl.chg0 HSD.out (((Chg.refl [] w4).alloc (.cells arrS0 30)).trans' hc5 (zN (by omega))));rw[hw6]at hB5 hB6 hBr6 hSr6 HC6 HSD6;have hl1:=hBr6.lt;have hl2:=hB6.lt;have R0:=zH (fun W (hc:Chg [w.heap.size,w.heap.size+1] w6 W)=>(hB6.chg hc (by simp;omega)).rangeQ)
    have R1:=zH (fun W (hc:Chg [w.heap.size,w.heap.size+1] w6 W)=>(hB5.chg hc (by simp;omega)).rangeQ);have hD:Chg [w.heap.size,w.heap.size+1] w6 w6.drew:=(Chg.refl _ w6).drew;have HBR:=zH hBr6;have HSR:=zH hSr6;clear hw6 hc5 hB4 hBr4 hSr4 hBs HC4 HSD FM hB5 hB6 hBr6 hSr6;go_upto_region 5 with fail
    refine wp_region_held_drew (S:=fun W:World=>Chg [w.heap.size,w.heap.size+1] w6 W) (by kernel_rfl) hD (fun _=>?_);refine zT 0 rfl (yields_row (by rfl) 26 (.tmp 5) rfl w1.heap.size 0 rfl (arrH h) _ R0.out Tryz.underlying26 rfl infH) ?_
    try simp only[zP]
    refine zT 1 rfl (yields_row (by rfl) 30 (.tmp 6) rfl w4.heap.size 0 rfl (arrSr s (.slice A6 sn c6) (.slice A5 m5 c5)) _ R1.out Tryz.underlying30 rfl infSr) ?_
    try simp only[zP]
    refine zU 2 rfl (by go_simp<;>with_reducible rfl) ?_
    try simp only[zP]
    refine zR 3 rfl (fun K hK=>?_);refine step_store_blk (vs:=arrH h) rfl 26 (.tmp 2) (.tmp 24) rfl HBR.out.drew rfl rfl rfl infH rfl ?_;intro w7 hB7 hc7;have hC7:(fun W:World=>Chg [w.heap.size,w.heap.size+1] w6 W) w7:=hD.trans (hc7.more (by simp));have hS7:=HSR.out.drew.chg hc7 (by simp);clear hc7
    refine zB hK ?_;clear hK K
    try simp only[zP]
    refine zR 4 rfl (fun K hK=>?_);refine step_store_blk (vs:=arrSr s (.slice A6 sn c6) (.slice A5 m5 c5)) rfl 30 (.tmp 3) (.tmp 25) rfl hS7 rfl rfl rfl infSr rfl ?_;intro w8 hB8 hc8;have hC8:(fun W:World=>Chg [w.heap.size,w.heap.size+1] w6 W) w8:=Chg.trans hC7 (hc8.more (by simp))
    have hB78:=hB7.chg hc8 (by simp);clear hc8;refine zB hK ?_;clear hK K
    try simp only[zP]
    refine zU 5 rfl (by go_simp<;>with_reducible rfl) ?_
    try simp only[zP]
    refine wpAnyH_done (by kernel_rfl) ?_ _;have HC8:=zH (HC6.out.trans' hC8 (by intro x hx;simp at hx;right;omega));have HF8:=zH (Sl.less (Sl.chg HSD6.out hC8 (by intro x hx;simp at hx;omega)) (B':=w.heap.size) (by omega));clear hC7 hC8 hS7 hB7 R0 R1 hD HBR HSR;go_wp2_with fail
    refine bodyPost_ret (results_cct rfl rfl rfl hB78 hB8 _ _ Tryz.underlying26 Tryz.underlying30 rfl rfl infH infSr) rfl ?_;refine⟨?_,HC8.out⟩;rw[hX.out];exact⟨_,_,_,_,rfl,HF8.out⟩
  ·have hX:=HX.out;rw[if_pos hk]at hX;replace hX:=zH hX;have hI:(h.nxt==43)=false:=by simpa using hk
   have FS:=zH (fun W=>so_no 7 W);clear HX hk;go_upto_region 2 with (first
    |(refine zs (vs:=arrH h) rfl 26 (.tmp 5) (.tmp 10) rfl rfl hBh rfl rfl rfl infH rfl ?_;intro w2 hB2 hc2)
    |fail)
   have HC2:=zH (HC1.out.trans' hc2 (zN (by omega)));have q3:w2.cell? ⟨w1.heap.size,3,none⟩=some (.int .i64 h.nxt):=hB2.cell 3;clear hB1 hS1 hBh hc2 HC1;go_wp2_with fail;refine (FS.out _).mono ?_;rintro e w4 ⟨rfl,hw4⟩;rw[hw4]at HC2;exact⟨rfl,RtdPost.err hX.out,HC2.out⟩
theorem routed_any {w:World} {v:Value} {l:By} (h:SlY w 0 v l) (hb:okB l) (hl:l.length≤1000000):Calls Tryz.prog 167 #[v] w fun e w'=>RtdPost (routedS l) w.heap.size e w'∧Chg [] w w':=routed_big h hb (by omega)
theorem SlL.chg0 {w w':World} {B:Nat} {pv:Value} {vs:List Value} {Ls:List By} (h:SlL w B pv vs Ls) (hc:Chg [] w w'):SlL w' B pv vs Ls:=
 ⟨Sl.chg0 h.sl hc,h.len,fun i v l hv hl=>⟨(h.each i v l hv hl).1.chg0 hc,(h.each i v l hv hl).2⟩⟩
theorem wfH.withLen {h:Hd} (k:wfH h) {n:Nat} (hn:n≤1000000):wfH {h with len:=n}:=⟨k.cls,k.lab,wf64 (n:=(n:Int)) (by omega),k.nxt,k.hop,k.src,k.dst⟩
theorem joined_any {w:World} {h:Hd} (k:wfH h) {pv:Value} {vs:List Value} {Ls:List By} (hs:SlL w 0 pv vs Ls) (hn:vs.length≤1000) (ht:Ls.flatten.length≤1000000) :
  Calls Tryz.prog 169 #[.agg (arrH h),pv] w fun e w'=>∃v,e=.returned v∧OwY w' w.heap.size v (joinS h Ls.flatten)∧Chg [] w w':=by
 obtain⟨A0,c0,rfl⟩:=hs.sl.form;have hA:=(Chg.refl [] w).alloc (.cells (arrH h) 26);have hB:Blk (w.alloc (.cells (arrH h) 26)) w.heap.size 26 (arrH h):=Blk.new _ _ _;have FC:=zH (concat_any (hs.chg0 hA) hn ht);have HJ:Hid (joinS h Ls.flatten=putH {h with len:=Ls.flatten.length} ++ Ls.flatten):=zH rfl
 have HA:=zH hA;have hpl:(putH {h with len:=Ls.flatten.length}).length≤40:=by
  unfold putH;split
  ·simp[fourS,twoB,adB_len]
  ·simp
 have FP:=zH (fun W=>sput_any (k.withLen ht) W);clear hA hs hn k;generalize joinS h Ls.flatten=jb at *;generalize putH {h with len:=Ls.flatten.length} = pb at *;generalize Ls.flatten=r at *;generalize vs.length=m at *;go_enter Tryz.func169,Tryz.ntmps169
 go_wp2_with fail;refine FC.out.mono ?_;rintro e w1 ⟨v1,rfl,ho1,hc1⟩;obtain⟨A1,c1,rfl⟩:=(OwY.sl ho1).form;have hB1:=hB.chg hc1 (by simp);have HC1:=zH (HA.out.trans hc1);have q2:w1.cell? ⟨w.heap.size,2,none⟩=some (.int .i64 h.len):=hB1.cell 2;have f2:=hB1.frozen 2
 have hB2:Blk (w1.setCell ⟨w.heap.size,2,none⟩ (.int .i64 (r.length:Nat))) w.heap.size 26 (arrH {h with len:=r.length}):=hB1.set_ 2 _;have hc2:Chg [w.heap.size] w1 (w1.setCell ⟨w.heap.size,2,none⟩ (.int .i64 (r.length:Nat))):=(Chg.refl _ _).setCell (p:=⟨w.heap.size,2,none⟩) (.inl (by simp)) _
 have HO1:=zH (Sl.chg (OwY.sl ho1) hc2 (by intro x hx;simp at hx;subst hx;simp));have HC2:=zH (HC1.out.trans' hc2 (zN (by omega)));clear FC hB hc1 HA hB1 HC1 ho1 hc2;go_wp2_with (first
  |(refine zl rfl 26 (.tmp 2) rfl hB2 rfl _ Tryz.underlying26 rfl infH ?_)
  |fail)
 refine (FP.out _).mono ?_;rintro e w3 ⟨v3,rfl,ho3,hc3⟩;have HO3:=zH ho3;have HS3:=zH (Sl.chg0 HO1.out hc3);have HC3:=zH (HC2.out.trans hc3);have hl3:=zH (own_lt ho3);have hzb:=HC2.out.size;have hz3:=hc3.size;clear HO1 hB2 HC2 ho3 hc3 FP q2 f2;go_wp2_with (first
  |(at_builtin;refine wpList_app elY rfl (.tmp 12) (.tmp 13) rfl _ rfl HO3.out rfl HS3.out (byV_one _) (by unfold maxLen;omega) (by omega) hz3 ?_;intro v4 w4 hown4 hc4 hb4)
  |fail)
 go_ret
 refine⟨v4,rfl,?_,HC3.out.trans' hc4 (fun x hx=>.inr (by have:=(hl3.out x hx).1;omega))⟩;rw[HJ.out];exact ownsRow_less (OwY.snoc rfl hown4) hzb
end Go.Proofs.YtgbndaiifbogmaaGreat
namespace Go.Proofs.YtgbndaiifbogmaaGreat
open Go.RowKit Go.Maps
theorem step_store_part {P:Program} {ops:Array Oper} {op:Oper} {a:Act} {w:World} {K:Act→World→Prop} {Q:Exit→Act→World→Prop} {E:Prop} {g:Nat} {e:TypeId} {cs vs:Array Value} (hgd:op.guard=none) (ty:TypeId) (x y:Operand) (ho:op.op=.store ty x y)
  (hb:Blk w g e cs) (o:Nat) (hx:a.eval x=.pointer (some ⟨g,o,none⟩)) (hy:a.eval y=.agg vs) (hsz:o+vs.size≤cs.size) (hi:(P.info? ty).map (·.size)=some vs.size) (h1:vs.toList.all (·.oneCell')=true)
  {cs':Array Value} (hcs:putAt cs o vs.toList=cs') (h:∀w',Blk w' g e cs'→Chg [g] w w'→K (a.put op.dst undef) w'):if Region.wanted op (yielded ops a.tmps)=true then Oper.wp P op a w K Q else E:=by
 subst hcs;rw[if_pos (by simp[Region.wanted,hgd])];refine wp_store_mid ty x y ho g o vs hx hy (fun j hj=>?_) hi (by simpa using h1) ?_
 ·rw[hb.cell,hb.frozen];exact⟨by rw[Array.getElem?_eq_getElem (show o+j<cs.size by omega)];rfl,rfl⟩
 ·exact h _ (Blk.setCells vs.toList o cs hb) (Chg.setCells _ _)
theorem SlL.lit {W:World} {T:TypeId} {vs:List Value} {Ls:List By} (hlen:Ls.length=vs.length) (h:∀(i:Nat) (v:Value) (l:By),vs[i]?=some v→Ls[i]?=some l→SlY W 0 v l∧okB l∧l.length≤1000000) (hn:vs.length≤1000) :
  SlL (W.alloc (.cells vs.toArray T)) 0 (.slice (some ⟨W.heap.size,0,none⟩) vs.length vs.length) vs Ls:=
 ⟨by have:=own_lit (base:=0) W T 1 vs.length vs.toArray (Nat.zero_le _) (by simp only[maxLen];omega) (by simp);exact Sl.of_own (by simpa using this),hlen,fun i v l hv hl=>⟨(h i v l hv hl).1.chg0 ((Chg.refl [] W).alloc _),(h i v l hv hl).2⟩⟩
theorem SlL.lit1 {W:World} {T:TypeId} {v:Value} {l:By} (h:SlY W 0 v l) (hb:okB l) (hl:l.length≤1000000):SlL (W.alloc (.cells #[v] T)) 0 (.slice (some ⟨W.heap.size,0,none⟩) 1 1) [v] [l]:=
 SlL.lit (vs:=[v]) (Ls:=[l]) rfl (fun i v' l' hv hl'=>by
  match i with
  |0=>simp at hv hl';subst hv;subst hl';exact⟨h,hb,hl⟩
  |i+1=>simp at hv) (by simp)
theorem SlL.lit2 {W:World} {T:TypeId} {v v2:Value} {l l2:By} (h:SlY W 0 v l) (hb:okB l) (hl:l.length≤1000000) (h2:SlY W 0 v2 l2) (hb2:okB l2) (hl2:l2.length≤1000000) :
  SlL (W.alloc (.cells #[v,v2] T)) 0 (.slice (some ⟨W.heap.size,0,none⟩) 2 2) [v,v2] [l,l2]:=
 SlL.lit (vs:=[v,v2]) (Ls:=[l,l2]) rfl (fun i v' l' hv hl'=>by
  match i with
  |0=>simp at hv hl';subst hv;subst hl';exact⟨h,hb,hl⟩
  |1=>simp at hv hl';subst hv;subst hl';exact⟨h2,hb2,hl2⟩
  |i+2=>simp at hv) (by simp)
theorem getH_can {b:By} {h:Hd} (k:getH b=.ok h) (hb:okB b):canH h=true:=by
 unfold getH at k;split at k
 ·cases k
 ·split at k
  ·cases k
  ·injection k with k
   subst k;have h0:=gB_lt hb 0;have h1:=gB_lt hb 1;have h2:=gB_lt hb 2;have h3:=gB_lt hb 3;have h6:=gB_lt hb 6;have h7:=gB_lt hb 7;have h4:=w2_lt hb 4
   unfold canH headOf;simp only[decide_eq_true_eq];omega
theorem srhS_len {b:By} {s:Sr} {n:Nat} (h:srhS b=.ok (s,n)) (hb:okB b):n≤b.length∧8≤n∧0≤s.nxt∧s.nxt≤255:=by
 unfold srhS at h
 iterate 7 (split at h;· cases h)
 simp only[Except.ok.injEq,Prod.mk.injEq]at h;obtain⟨h1,h2⟩:=h;subst h1;have:=gB_lt hb 0;refine⟨by omega,by omega,by simp only;omega,by simp only;omega⟩
structure RtFine (b:By) (h:Hd) (s:Sr) (n:Nat):Prop where
 can:canH h=true
 wf:wfH h
 len:40+n≤b.length
 hl:h.len=(b.length:Int)-40
 nx:0≤s.nxt∧s.nxt≤255
 fine:SrFine (b.drop 40) s
 ok:∀x∈s.segs,okA x
theorem routedS_fine {b:By} {h:Hd} {s:Sr} {n:Nat} (k:routedS b=.ok (h,s,n)) (hb:okB b):RtFine b h s n:=by
 unfold routedS at k;split at k
 ·cases k
 ·rename_i h' hh;split at k
  ·cases k
  ·split at k
   ·cases k
   ·rename_i s' n' hs;simp only[Except.ok.injEq,Prod.mk.injEq]at k;obtain⟨rfl,rfl,rfl⟩:=k;obtain⟨ka,kb,kc,kd,ke⟩:=headS_fine hh hb;have hc:=getH_can kd hb;obtain⟨m1,m2,m3,m4⟩:=srhS_len hs (hb.drop 40);rw[List.length_drop]at m1;have hf:=srhS_fine hs
    exact⟨hc,canH.wf hc ka kb,by omega,ke,⟨m3,m4⟩,hf,fun x hx=>by obtain⟨i,hi⟩:=hf.ok x hx;rw[hi];exact adAt_ok (hb.drop 40) i⟩
theorem routedS_err {b:By} {n:Int} (k:routedS b=.error n):n≠0:=by
 unfold routedS at k;split at k
 ·rename_i e he;injection k with k;subst k;exact headS_err he
 ·split at k
  ·injection k with k;omega
  ·split at k
   ·rename_i e he;injection k with k;subst k;exact srhS_err he
   ·cases k
def GivePost (x:Ans By) (B:Nat) (e:Ending) (w':World):Prop:=match x with
 |.error n=>e=panE n
 |.ok y=>∃v,e=.returned v∧OwY w' B v y
theorem GivePost.err {x:Ans By} {B:Nat} {w':World} {n:Int} (h:x=.error n):GivePost x B (panE n) w':=by subst h;rfl
theorem GivePost.ok {x:Ans By} {B:Nat} {w':World} {y:By} {v:Value} (h:x=.ok y) (ho:OwY w' B v y):GivePost x B (.returned v) w':=by subst h;exact⟨v,rfl,ho⟩
theorem h_dst (h:Hd) (x:Ad):putAt (arrH h) 21 (arrA x).toList=arrH {h with dst:=x}:=by kernel_rfl
theorem remove_any {w:World} {v:Value} {l:By} (h:SlY w 0 v l) (hb:okB l) (hl:l.length≤1000000) :
  Calls Tryz.prog 110 #[v] w fun e w'=>GivePost (remS l) w.heap.size e w'∧Chg [] w w':=by
 obtain⟨A,c,rfl⟩:=h.form;have FR:=zH (routed_any h hb hl);have HX:Hid (remS l=match routedS l with | .error e=>.error e | .ok (h,s,n)=>.ok (joinS {h with nxt:=s.nxt,dst:=s.segs.getD 0 ad0} (l.drop (40+n)))):=zH rfl;have HF:=zH (fun h s n (k:routedS l=.ok (h,s,n))=>routedS_fine k hb)
 have HS:=zH (fun W (hc:Chg [] w W)=>h.chg0 hc);have HOK:=zH hb;generalize remS l=x at *;generalize routedS l=y at *;clear h hb;go_enter Tryz.func110,Tryz.ntmps110
 go_wp2_with fail;refine FR.out.mono ?_;rintro e w1 ⟨hp,hc1⟩;cases y with
 |error n=>
  obtain rfl:e=_:=hp;have hX:=zH HX.out;simp only at hX;exact⟨rfl,GivePost.err hX.out,hc1⟩
 |ok r=>
  obtain⟨h,s,n⟩:=r;obtain⟨sv,A5,m5,c5,rfl,hsd⟩:=hp;have hf:=HF.out h s n rfl;obtain⟨A6,c6,rfl⟩:=Sl.form hsd;have hX:=zH HX.out;simp only at hX;obtain⟨i0,_,hi0⟩:=hf.fine.left;have hs0:s.segs[0]?=some (s.segs.getD 0 ad0):=by
   rw[List.getD_eq_getElem?_getD,List.getElem?_eq_getElem (show 0<s.segs.length by omega)];rfl
  have hokx:=hf.ok _ (List.mem_of_getElem? hs0);have hsl:0<s.segs.length:=by omega
  have HSEG:=zH (fun W (hc:Chg [w1.heap.size,w1.heap.size+1] w1 W)=>(SlD.rec (Sl.new hsd hc (by intro x hx;simp at hx;omega)) hs0).2);have hn40:=hf.len;have hnx:=hf.nx
  have HWF:Hid (wfH {h with nxt:=s.nxt,dst:=s.segs.getD 0 ad0}):=zH ⟨hf.wf.cls,hf.wf.lab,hf.wf.len,wf64 (n:=s.nxt) (by omega),hf.wf.hop,hf.wf.src,hokx⟩;generalize s.segs.getD 0 ad0=x0 at *
  have hB1:Blk ((w1.alloc (.cells arrH0 26)).alloc (.cells arrS0 30)) w1.heap.size 26 arrH0:=(Blk.new _ _ _).alloc _;have hS1:Blk ((w1.alloc (.cells arrH0 26)).alloc (.cells arrS0 30)) (w1.heap.size+1) 30 arrS0:=Blk.new' (by simp)
  have hd1:Chg [w1.heap.size,w1.heap.size+1] w1 ((w1.alloc (.cells arrH0 26)).alloc (.cells arrS0 30)):=((Chg.refl _ w1).alloc _).alloc _;have HC1:=zH hc1;have HD1:=zH hd1;have hz1:=hc1.size;clear FR HX HF hc1 hd1 hf hi0 hs0 hsd;generalize s.segs.length=sn at *;go_upto_region 2 with (first
   |(refine zs (vs:=arrH h) rfl 26 (.tmp 3) (.tmp 9) rfl rfl hB1 rfl rfl rfl infH rfl ?_;intro w2 hB2 hc2;have hS2:=hS1.chg hc2 (by simp))
   |(refine zs (vs:=arrSr s (.slice A6 sn c6) (.slice A5 m5 c5)) rfl 30 (.tmp 4) (.tmp 10) rfl rfl hS2 rfl rfl rfl infSr rfl ?_;intro w3 hS3 hc3)
   |fail)
  have hB3:=hB2.chg hc3 (by simp);have hD3:=(HD1.out.trans (hc2.more (by simp))).trans (hc3.more (T:=[w1.heap.size,w1.heap.size+1]) (by simp));have HD3:=zH hD3;clear hB1 hS1 hB2 hS2 hc2 hc3 HD1 hD3;obtain⟨b,o,rfl,_⟩:=HSEG.out w3 HD3.out
  have HSG:=zH (fun W (hc:Chg [w1.heap.size,w1.heap.size+1] w1 W)=>by
   obtain⟨b',o',e',hr⟩:=HSEG.out W hc;simp only[Option.some.injEq,Addr.mk.injEq,and_true]at e';obtain⟨rfl,rfl⟩:=e';rw[Nat.zero_mul,Nat.add_zero]at hr;exact hr)
  have S0:=zH (fun W (hc:Chg [w1.heap.size] w3 W)=>(hS3.chg hc (by simp)).cell 0);have S4:=zH (fun W (hc:Chg [w1.heap.size] w3 W)=>(hS3.chg hc (by simp)).cell 4);have R5:=zH (fun W (hc:Chg [w1.heap.size] w3 W)=>HSG.out W (HD3.out.trans (hc.more (by simp))));have hI0:(0:Int)<(sn:Int):=by omega
  have hD:Chg [w1.heap.size] w3 w3.drew:=(Chg.refl _ w3).drew;have HB3:=zH hB3;clear HSEG HSG hS3 hB3;refine wp_region_noPanic ?_;refine wp_region_held_drew (S:=fun W:World=>Chg [w1.heap.size] w3 W) (by kernel_rfl) hD (fun _=>?_);refine zU 0 rfl (by go_simp<;>with_reducible rfl) ?_
  try simp only[zP]
  refine zT 1 rfl (zc (by rfl) 3 (.tmp 12) rfl (w1.heap.size+1) 0 rfl (.int .i64 s.nxt) _ S0.out Tryz.underlying3 rfl) ?_
  try simp only[zP]
  refine zU 2 rfl (by go_simp<;>with_reducible rfl) ?_
  try simp only[zP]
  refine zT 3 rfl (zc (by rfl) 27 (.tmp 14) rfl (w1.heap.size+1) 4 rfl (.slice (some ⟨b,o,none⟩) sn c6) _ S4.out Tryz.underlying27 rfl) ?_
  try simp only[zP]
  refine zU 4 rfl (by go_simp<;>with_reducible rfl) ?_
  try simp only[zP]
  refine zT 5 rfl (yields_row (by rfl) 24 (.tmp 16) rfl b o rfl (arrA x0) _ R5.out Tryz.underlying24 rfl infAd) ?_
  try simp only[zP]
  refine zU 6 rfl (by go_simp<;>with_reducible rfl) ?_
  try simp only[zP]
  refine zR 7 rfl (fun K hK=>?_);refine step_store_cell (v:=.int .i64 s.nxt) rfl 3 (.tmp 18) (.tmp 13) rfl HB3.out.drew rfl rfl rfl (by show _<37;omega) (by kernel_rfl) rfl ?_;intro w4 hB4 hc4;rw[h_nxt]at hB4;have hC4:(fun W:World=>Chg [w1.heap.size] w3 W) w4:=hD.trans hc4;clear hc4;refine zB hK ?_
  clear hK K
  try simp only[zP]
  refine zU 8 rfl (by go_simp<;>with_reducible rfl) ?_
  try simp only[zP]
  refine zR 9 rfl (fun K hK=>?_);refine step_store_part (vs:=arrA x0) rfl 24 (.tmp 19) (.tmp 17) rfl hB4 21 rfl rfl (by show 21+16≤37;omega) infAd rfl (h_dst _ x0) ?_;intro w5 hB5 hc5;have hC5:(fun W:World=>Chg [w1.heap.size] w3 W) w5:=Chg.trans hC4 hc5;clear hc5;refine zB hK ?_;clear hK K
  try simp only[zP]
  refine wpAnyH_done (by kernel_rfl) ?_ _;refine NoPanic.normal ?_;have HC5:=zH (HC1.out.trans' (HD3.out.trans (Chg.more hC5 (T:=[w1.heap.size,w1.heap.size+1]) (by simp))) (by intro x hx;simp at hx;right;omega));clear hC4 hC5 hB4 hD HB3 S0 S4 R5 HD3 HC1
  have hwn:IntKind.i64.wrap (40+(n:Int))=40+(n:Int):=by rw[IntKind.wrap_i64];omega
  obtain⟨X,hXr,hXs⟩:=cutYf (HS.out w5 HC5.out) (lo:=40+n) hn40;have hXr':∀W:World,(Instr.slice 22 (.slice A l.length c) (some (.int .i64 (40+(n:Int)))) none none).run Tryz.prog W=.ok (.slice X (l.length-(40+n)) (c-(40+n))) W:=fun W=>by
   have:=hXr W;rw[Int.natCast_add]at this;exact this
  have R0:=zH (fun W (hc:Chg [] w5 W)=>(hB5.chg hc (by simp)).rangeQ);have hD:Chg [] w5 w5.drew:=(Chg.refl _ w5).drew;have HL:=zH (SlL.lit1 (T:=22) (W:=w5.drew) (Sl.less (Sl.chg0 hXs hD) (Nat.zero_le _)) (HOK.out.drop (40+n)) (by rw[List.length_drop];omega))
  have hfl:[l.drop (40+n)].flatten=l.drop (40+n):=by simp
  have FJ:=zH (joined_any HWF.out HL.out (by simp) (by rw[hfl,List.length_drop];omega));have hld:(l.drop (40+n)).length=l.length-(40+n):=by rw[List.length_drop]
  rw[hfl]at FJ;clear hXr hXs hfl HL;go_upto_region 3 with fail
  refine wp_region_noPanic ?_;refine wp_region_held_drew (S:=fun W:World=>Chg [] w5 W) (by kernel_rfl) hD (fun _=>?_);refine zT 0 rfl (yields_row (by rfl) 26 (.tmp 3) rfl w1.heap.size 0 rfl (arrH {h with nxt:=s.nxt,dst:=x0}) _ R0.out Tryz.underlying26 rfl infH) ?_
  try simp only[zP]
  refine zU 1 rfl (by go_simp<;>with_reducible rfl) ?_
  try simp only[zP]
  refine zU 2 rfl (by go_simp<;>with_reducible rfl) ?_
  try simp only[zP]
  refine zU 3 rfl (by go_simp<;>with_reducible rfl) ?_
  try simp only[zP]
  refine zU 4 rfl (by go_simp<;>with_reducible rfl) ?_
  try simp only[zP]
  refine zR 5 rfl (fun K hK=>?_);refine step_run (v:=.slice (some ⟨w5.heap.size,0,none⟩) 1 1) (w':=w5.drew.alloc (.cells #[.slice X (l.length-(40+n)) (c-(40+n))] 22)) rfl (by go_simp<;>rfl) ?_
  have hC6:(fun W:World=>Chg [] w5 W) (w5.drew.alloc (.cells #[.slice X (l.length-(40+n)) (c-(40+n))] 22)):=hD.alloc _;refine zB hK ?_;clear hK K
  try simp only[zP]
  refine zR 6 rfl (fun K hK=>?_);go_simp
  refine FJ.out.mono ?_;rintro e w7 ⟨v7,rfl,ho7,hc7⟩;have hC7:(fun W:World=>Chg [] w5 W) w7:=Chg.trans hC6 hc7;have HZ:=zH (And.intro (ownsRow_less (B':=w.heap.size) ho7 (by have:=HC5.out.size;simp;omega)) (HC5.out.trans hC7));clear hc7 ho7;refine zB hK ?_;clear hK K
  try simp only[zP]
  refine zU 7 rfl (by go_simp<;>with_reducible rfl) ?_
  try simp only[zP]
  refine wpAnyH_done (by kernel_rfl) ?_ _;refine NoPanic.normal ?_;clear hC6 hC7 hD FJ R0;go_wp2_with fail;go_ret
  exact⟨GivePost.ok hX.out HZ.out.1,HZ.out.2⟩
end Go.Proofs.YtgbndaiifbogmaaGreat
namespace Go.Proofs.YtgbndaiifbogmaaGreat
open Go.RowKit Go.Maps
theorem own_set1Y {w:World} {base g cap:Nat} {l:By} (h:OwY w base (.slice (some ⟨g,0,none⟩) l.length cap) l) {i:Nat} (hi:i<l.length) (x:Nat):OwY (w.setCell ⟨g,i,none⟩ (byV x)) base (.slice (some ⟨g,0,none⟩) l.length cap) (l.set i x):=by
 unfold OwY at *;rw[List.length_set,List.map_set];obtain⟨hl,h2⟩:=h;rcases h2 with ⟨h0,_⟩ | ⟨g',cap',cur,hv,hg,hh,hn,hcap,hsz,htake⟩
 ·cases h0
 ·cases hv;have hB:Blk w g 5 cur:=hh;refine⟨by simp,.inr ⟨g,cap,cur.setIfInBounds i (byV x),rfl,hg,hB.set_ i _,hn,hcap,by simpa using hsz,?_⟩⟩;simp only[Array.toList_setIfInBounds,Nat.mul_one]at htake ⊢;rw[List.take_set,htake]
theorem own_frozenY {w:World} {base g cap n:Nat} {l:By} (h:w.ownsRow base 5 1 (.slice (some ⟨g,0,none⟩) n cap) n (l.map byV)) (i:Nat):w.frozen? ⟨g,i,none⟩=false:=by
 obtain⟨hl,h2⟩:=h;rcases h2 with ⟨h0,_⟩ | ⟨g',cap',cur,hv,hg,hh,hn,hcap,hsz,htake⟩
 ·cases h0
 ·cases hv;have hB:Blk w g 5 cur:=hh;exact hB.frozen i
theorem srhS_left {b:By} {s:Sr} {n:Nat} (h:srhS b=.ok (s,n)):s.left=(gB b 3:Nat):=by
 unfold srhS at h
 iterate 7 (split at h;· cases h)
 simp only[Except.ok.injEq,Prod.mk.injEq]at h;obtain⟨h1,h2⟩:=h;subst h1;rfl
theorem routedS_left {b:By} {h:Hd} {s:Sr} {n:Nat} (k:routedS b=.ok (h,s,n)):s.left=(gB b 43:Nat):=by
 unfold routedS at k;split at k
 ·cases k
 ·split at k
  ·cases k
  ·split at k
   ·cases k
   ·rename_i s' n' hs;simp only[Except.ok.injEq,Prod.mk.injEq]at k;obtain⟨rfl,rfl,rfl⟩:=k;rw[srhS_left hs,gB_drop]
theorem advance_big {w:World} {v:Value} {l:By} (h:SlY w 0 v l) (hb:okB l) (hl:l.length≤9223372036854775807) :
  Calls Tryz.prog 108 #[v] w fun e w'=>GivePost (advS l) w.heap.size e w'∧Chg [] w w':=by
 obtain⟨A,c,rfl⟩:=h.form;have FR:=zH (routed_big h hb hl)
 have HX:Hid (advS l=match routedS l with | .error e=>.error e | .ok (h,s,_)=>if s.left≤0 then .error 10 else if h.hop≤1 then .error 13 else .ok ((joinS {h with hop:=h.hop-1,dst:=s.segs.getD (s.left.toNat-1) ad0} (l.drop 40)).set 43 (gB l 43-1))):=zH rfl
 have HF:=zH (fun h s n (k:routedS l=.ok (h,s,n))=>routedS_fine k hb);have HLF:=zH (fun h s n (k:routedS l=.ok (h,s,n))=>routedS_left k);have HS:=zH (fun W (hc:Chg [] w W)=>h.chg0 hc);have HOK:=zH hb;generalize advS l=x at *;generalize routedS l=y at *;clear h hb;go_enter Tryz.func108,Tryz.ntmps108
 go_wp2_with fail;refine FR.out.mono ?_;rintro e w1 ⟨hp,hc1⟩;cases y with
 |error n=>
  obtain rfl:e=_:=hp;have hX:=zH HX.out;simp only at hX;exact⟨rfl,GivePost.err hX.out,hc1⟩
 |ok r=>
  obtain⟨h,s,n⟩:=r;obtain⟨sv,A5,m5,c5,rfl,hsd⟩:=hp;have hf:=HF.out h s n rfl;have hl:l.length≤1000000:=by have h1:=(canH.at hf.can).2.2.1;have h2:=hf.hl;omega
  obtain⟨A6,c6,rfl⟩:=Sl.form hsd;obtain⟨i0,hli,hi0⟩:=hf.fine.left;have hsi:s.segs[i0-1]?=some (s.segs.getD (i0-1) ad0):=by
   rw[List.getD_eq_getElem?_getD,List.getElem?_eq_getElem (show i0-1<s.segs.length by omega)];rfl
  have hokx:=hf.ok _ (List.mem_of_getElem? hsi);have hsl:0<s.segs.length:=by omega
  have HSEG:=zH (fun W (hc:Chg [w1.heap.size,w1.heap.size+1] w1 W)=>(SlD.rec (Sl.new hsd hc (by intro x hx;simp at hx;omega)) hsi).2);have hn40:=hf.len;have h43:Hid (gB l 43=i0):=zH (by have:=HLF.out h s n rfl;omega);have hlt0:i0≤255:=by have:=gB_lt HOK.out 43;rw[h43.out]at this;omega
  have HIX:=HX.out;simp only at HIX;rw[hli,Int.toNat_natCast]at HIX;have HX9:=zH HIX;have HCAN:=zH (And.intro (canH.at hf.can) hf.hl);have hop1:0≤h.hop∧h.hop≤255:=(canH.at hf.can).2.2.2.2;have HWF:=zH hf.wf;clear HIX;generalize s.segs.getD (i0-1) ad0=x0 at *
  have hB1:Blk ((w1.alloc (.cells arrH0 26)).alloc (.cells arrS0 30)) w1.heap.size 26 arrH0:=(Blk.new _ _ _).alloc _;have hS1:Blk ((w1.alloc (.cells arrH0 26)).alloc (.cells arrS0 30)) (w1.heap.size+1) 30 arrS0:=Blk.new' (by simp)
  have hd1:Chg [w1.heap.size,w1.heap.size+1] w1 ((w1.alloc (.cells arrH0 26)).alloc (.cells arrS0 30)):=((Chg.refl _ w1).alloc _).alloc _;have HC1:=zH hc1;have HD1:=zH hd1;have hz1:=hc1.size;have HLI:Hid (s.left=(i0:Int)):=zH hli;clear FR HX HF HLF hc1 hd1 hf hsi hsd hli
  generalize s.segs.length=sn at *;go_upto_region 2 with (first
   |(refine zs (vs:=arrH h) rfl 26 (.tmp 3) (.tmp 10) rfl rfl hB1 rfl rfl rfl infH rfl ?_;intro w2 hB2 hc2;have hS2:=hS1.chg hc2 (by simp))
   |(refine zs (vs:=arrSr s (.slice A6 sn c6) (.slice A5 m5 c5)) rfl 30 (.tmp 4) (.tmp 11) rfl rfl hS2 rfl rfl rfl infSr rfl ?_;intro w3 hS3 hc3)
   |fail)
  have hB3:=hB2.chg hc3 (by simp);have hD3:=(HD1.out.trans (hc2.more (by simp))).trans (hc3.more (T:=[w1.heap.size,w1.heap.size+1]) (by simp));have HD3:=zH hD3;have HC3:=zH (HC1.out.trans' hD3 (by intro x hx;simp at hx;right;omega))
  have q1:w3.cell? ⟨w1.heap.size+1,1,none⟩=some (.int .i64 (i0:Int)):=by have:=hS3.cell 1;rw[show ((arrSr s (.slice A6 sn c6) (.slice A5 m5 c5))[1]?)=some (.int .i64 s.left) from rfl,HLI.out]at this;exact this
  clear hB1 hS1 hB2 hS2 hc2 hc3 HD1 hD3;by_cases hz:i0=0
  ·subst hz;have hX:=HX9.out;rw[if_pos (by omega)]at hX;replace hX:=zH hX;have hI:¬((0:Int)<((0:Nat):Int)):=by omega
   have FS:=zH (fun W=>so_no 10 W);clear HX9 hB3 hS3 HSEG;go_wp2_with fail;refine (FS.out _).mono ?_;rintro e w4 ⟨rfl,hw4⟩;rw[hw4]at HC3;exact⟨rfl,GivePost.err hX.out,HC3.out⟩
  have hX:=HX9.out;rw[if_neg (by omega)]at hX;replace HX9:=zH hX;have hI:0<i0:=by omega
  have FS:=zH (fun W=>so_ok 10 W);clear hX;go_wp2_with fail;refine (FS.out _).mono ?_;rintro e w4 ⟨rfl,hw4⟩;rw[hw4]at HC3 HD3 hB3 hS3;clear hw4 FS q1 hI;have q4:w4.cell? ⟨w1.heap.size,4,none⟩=some (.int .i64 h.hop):=hB3.cell 4;by_cases hh:h.hop≤1
  ·have hX:=HX9.out;rw[if_pos hh]at hX;replace hX:=zH hX;have hI:decide ((1:Int)<h.hop)=false:=decide_eq_false (by omega);have FS:=zH (fun W=>so_no 13 W);clear HX9 hB3 hS3 HSEG hh;go_wp2_with fail;refine (FS.out _).mono ?_;rintro e w5 ⟨rfl,hw5⟩;rw[hw5]at HC3;exact⟨rfl,GivePost.err hX.out,HC3.out⟩
  have hX:=HX9.out;rw[if_neg hh]at hX;replace HX9:=zH hX;have hI:(1:Int)<h.hop:=by omega
  have FS:=zH (fun W=>so_ok 13 W);have hwh:IntKind.i64.wrap (h.hop-1)=h.hop-1:=by rw[IntKind.wrap_i64];omega
  have hwi:IntKind.i64.wrap ((i0:Int)-1)=((i0-1:Nat):Int):=by rw[IntKind.wrap_i64];omega
  have hI1:((i0-1:Nat):Int)<(sn:Int):=by omega
  clear hX;go_wp2_with fail;refine (FS.out _).mono ?_;rintro e w5 ⟨rfl,hw5⟩;rw[hw5]at HC3 HD3 hB3 hS3;clear hw5 FS q4;have q4:w5.cell? ⟨w1.heap.size,4,none⟩=some (.int .i64 h.hop):=hB3.cell 4;have f4:=hB3.frozen 4
  have hB6:Blk (w5.setCell ⟨w1.heap.size,4,none⟩ (.int .i64 (h.hop-1))) w1.heap.size 26 (arrH {h with hop:=h.hop-1}):=hB3.set_ 4 _;have hc6:Chg [w1.heap.size] w5 (w5.setCell ⟨w1.heap.size,4,none⟩ (.int .i64 (h.hop-1))):=(Chg.refl _ _).setCell (p:=⟨w1.heap.size,4,none⟩) (.inl (by simp)) _
  have hS6:=hS3.chg hc6 (by simp);have HD6:=zH (HD3.out.trans (hc6.more (T:=[w1.heap.size,w1.heap.size+1]) (by simp)));have HS6:=zH hS6;have HB6:=zH hB6;clear hc6 hB3 hS3 HD3 HC3 hS6 hB6;go_upto_region 5 with fail
  obtain⟨w6,hw6⟩:∃w6,w6=w5.setCell ⟨w1.heap.size,4,none⟩ (.int .i64 (h.hop-1)):=⟨_,rfl⟩;rw[←hw6]at HD6 HS6 HB6;rw[←hw6];clear hw6 q4 f4;obtain⟨b,o,rfl,hrg⟩:=HSEG.out w6 HD6.out;have hB6:=HB6.out
  have q1:w6.cell? ⟨w1.heap.size+1,1,none⟩=some (.int .i64 (i0:Int)):=by have:=HS6.out.cell 1;rw[show ((arrSr s (.slice (some ⟨b,o,none⟩) sn c6) (.slice A5 m5 c5))[1]?)=some (.int .i64 s.left) from rfl,HLI.out]at this;exact this
  have q4:w6.cell? ⟨w1.heap.size+1,4,none⟩=some (.slice (some ⟨b,o,none⟩) sn c6):=HS6.out.cell 4;go_upto_region 6 with (first
   |(refine wpList_load_mid rfl 24 (.tmp 30) rfl b (o+(i0-1)*16) rfl (arrA x0).toList _ hrg Tryz.underlying24 rfl infAd ?_)
   |(refine wpList_store_part (vs:=arrA x0) rfl 24 (.tmp 32) (.tmp 31) rfl rfl hB6 21 rfl rfl (by show 21+16≤37;omega) infAd rfl (h_dst _ x0) ?_;intro w7 hB7 hc7)
   |fail)
  have HC7:=zH (HC1.out.trans' (HD6.out.trans (hc7.more (T:=[w1.heap.size,w1.heap.size+1]) (by simp))) (by intro x hx;simp at hx;right;omega));obtain⟨hcan,hHl⟩:=HCAN.out
  have hW8:wfH {h with hop:=h.hop-1,dst:=x0}:=⟨HWF.out.cls,HWF.out.lab,HWF.out.len,HWF.out.nxt,wf64 (n:=h.hop-1) (by omega),HWF.out.src,hokx⟩
  have hcn:canH {h with hop:=h.hop-1,dst:=x0,len:=(l.drop 40).length} = true:=canH_of (by omega) (by omega) (by rw[List.length_drop];omega) (by omega) (by omega);have HJL:=zH (joinS_len (h:={h with hop:=h.hop-1,dst:=x0}) (r:=l.drop 40) hcn)
  have HJG:=zH (gB_joinS (h:={h with hop:=h.hop-1,dst:=x0}) (r:=l.drop 40) hcn 3);clear hB6 HB6 HS6 HSEG hrg q1 q4 hc7 HD6 HC1;obtain⟨X,hXr,hXs⟩:=cutYf (HS.out w7 HC7.out) (lo:=40) (by omega)
  have hXr':∀W:World,(Instr.slice 22 (.slice A l.length c) (some (.int .i64 40)) none none).run Tryz.prog W=.ok (.slice X (l.length-40) (c-40)) W:=hXr;have R0:=zH (fun W (hc:Chg [] w7 W)=>(hB7.chg hc (by simp)).rangeQ);have hD:Chg [] w7 w7.drew:=(Chg.refl _ w7).drew
  have HL:=zH (SlL.lit1 (T:=22) (W:=w7.drew) (Sl.less (Sl.chg0 hXs hD) (Nat.zero_le _)) (HOK.out.drop 40) (by rw[List.length_drop];omega));have hfl:[l.drop 40].flatten=l.drop 40:=by simp
  have FJ:=zH (joined_any hW8 HL.out (by simp) (by rw[hfl,List.length_drop];omega));have hld:(l.drop 40).length=l.length-40:=by rw[List.length_drop]
  rw[hfl]at FJ;have HLD:=zH hld;clear hXr hXs hfl HL hcn hW8 hld hcan hHl;refine wp_region_noPanic ?_;refine wp_region_held_drew (S:=fun W:World=>Chg [] w7 W) (by kernel_rfl) hD (fun _=>?_)
  refine zT 0 rfl (yields_row (by rfl) 26 (.tmp 3) rfl w1.heap.size 0 rfl (arrH {h with hop:=h.hop-1,dst:=x0}) _ R0.out Tryz.underlying26 rfl infH) ?_
  try simp only[zP]
  refine zU 1 rfl (by go_simp<;>with_reducible rfl) ?_
  try simp only[zP]
  refine zU 2 rfl (by go_simp<;>with_reducible rfl) ?_
  try simp only[zP]
  refine zR 3 rfl (fun K hK=>?_);refine step_run (v:=.slice (some ⟨w7.heap.size,0,none⟩) 1 1) (w':=w7.drew.alloc (.cells #[.slice X (l.length-40) (c-40)] 22)) rfl (by go_simp<;>rfl) ?_;have hC8:(fun W:World=>Chg [] w7 W) (w7.drew.alloc (.cells #[.slice X (l.length-40) (c-40)] 22)):=hD.alloc _
  refine zB hK ?_;clear hK K
  try simp only[zP]
  refine zR 4 rfl (fun K hK=>?_);go_simp
  refine FJ.out.mono ?_;rintro e w9 ⟨v9,rfl,ho9,hc9⟩;have hC9:(fun W:World=>Chg [] w7 W) w9:=Chg.trans hC8 hc9;have HO9:=zH (ownsRow_less (B':=w.heap.size) ho9 (by have:=HC7.out.size;simp;omega));have HC9:=zH (HC7.out.trans hC9);clear hc9 ho9;refine zB hK ?_;clear hK K
  try simp only[zP]
  refine zU 5 rfl (by go_simp<;>with_reducible rfl) ?_
  try simp only[zP]
  refine wpAnyH_done (by kernel_rfl) ?_ _;refine NoPanic.normal ?_;clear hC8 hC9 hD FJ R0;have hlen:(joinS {h with hop:=h.hop-1,dst:=x0} (l.drop 40)).length=40+(l.length-40):=by rw[HJL.out,HLD.out]
  have hg43:gB (joinS {h with hop:=h.hop-1,dst:=x0} (l.drop 40)) 43=i0:=by rw[HJG.out,gB_drop,h43.out]
  have h44:43<l.length:=by
   rcases Nat.lt_or_ge 43 l.length with hx|hx
   ·exact hx
   ·exfalso;have:=h43.out;rw[gB,List.getD_eq_getElem?_getD,List.getElem?_eq_none hx]at this;simp at this;omega
  have hX:=HX9.out;rw[h43.out]at hX;replace hX:=zH hX;have HO:Hid (OwY w9 w.heap.size v9 (joinS {h with hop:=h.hop-1,dst:=x0} (l.drop 40))):=HO9;generalize joinS {h with hop:=h.hop-1,dst:=x0} (l.drop 40)=jb at *;clear HX9 HO9 HJL HJG
  obtain⟨g,c9,rfl,hg9⟩:∃g c9,v9=.slice (some ⟨g,0,none⟩) jb.length c9∧w.heap.size≤g:=by
   obtain⟨hl0,h2⟩:=HO.out;rcases h2 with ⟨_,h0⟩ | ⟨g,cap,cur,hv,hg,_⟩
   ·omega
   ·exact⟨g,cap,hv,hg⟩
  obtain⟨b9,o9,c9',e9,_,hcell⟩:=(OwY.sl HO.out).at_ (i:=43) (by omega);simp only[Value.slice.injEq,Option.some.injEq,Addr.mk.injEq,and_true,true_and]at e9;obtain⟨⟨rfl,rfl⟩,-⟩:=e9;rw[hg43,Nat.zero_add]at hcell;have hfz:=own_frozenY HO.out 43;have hi43:(43:Int)<(jb.length:Int):=by omega
  have hw8:IntKind.u8.wrap ((i0:Int)-1)=((i0-1:Nat):Int):=by rw[IntKind.wrap_u8'];omega
  have HF:=zH (And.intro (own_set1Y HO.out (i:=43) (by omega) (i0-1)) (HC9.out.setCell (p:=⟨g,43,none⟩) (.inr hg9) (byV (i0-1))));unfold byV at hcell;clear HO HC9 HC7 hlen hg43 HLD;generalize jb.length=m at *;go_wp2_with fail;go_ret
  exact⟨GivePost.ok hX.out HF.out.1,HF.out.2⟩
end Go.Proofs.YtgbndaiifbogmaaGreat
