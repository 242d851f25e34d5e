/-
  Small laws and walks on the way to LearnReads: Rq13. Conditions: each theorem names its own.
-/
import Derived.Test.YtgbndaiifbogmaaGreatY26
import Derived.Test.YtgbndaiifbogmaaGreatY24
import Derived.Test.YtgbndaiifbogmaaGreatY25
import Derived.Test.YtgbndaiifbogmaaGreatY15
set_option linter.unusedVariables false
set_option linter.unusedSimpArgs false
set_option maxRecDepth 100000
set_option maxHeartbeats 8000000
namespace Go.Proofs.YtgbndaiifbogmaaGreat
open Go.RowKit Go.Maps
theorem parseS_rt (b:By):parseS b=if 1500<b.length then .error 4
 else match getH b with
  |.error e=>.error e
  |.ok h=>
   if h.len≠(b.length:Int)-40 then .error 5
   else match walkS b h.nxt 40 with
    |.error e=>.error e
    |.ok L=>match rtS b h L with
      |.error e=>.error e
      |.ok q=>match upS h.src q.2 (L.getLastD default).kind (b.drop (L.getLastD default).at_) with
       |.error e=>.error e
       |.ok u=>.ok ⟨h,q.1,q.2,u,b.drop (L.getLastD default).at_⟩:=by
 unfold parseS rtS;split
 ·rfl
 ·cases getH b with
  |error e=>rfl
  |ok h=>
   simp only
   split
   ·rfl
   ·cases walkS b h.nxt 40 with
    |error e=>rfl
    |ok L=>
     simp only
     by_cases hl:lateW L=true
     ·rw[if_pos hl,if_pos hl]
     ·rw[if_neg hl,if_neg hl];cases routeS b h (firstW L)<;>rfl
theorem rtS_err {b:By} {h:Hd} {L:List Pt} {n:Int} (k:rtS b h L=.error n):n≠0:=by
 unfold rtS at k;split at k
 ·injection k with k;omega
 ·exact routeS_err k
theorem rtS_fine {b:By} {h:Hd} {L:List Pt} {q:Option Sr×Ad} (k:rtS b h L=.ok q) (hb:okB b) (hd:okA h.dst):okA q.2:=by
 unfold rtS at k;split at k
 ·cases k
 ·exact (routeS_fine k hb hd).1
theorem infP5 {p:Pt}:(Tryz.prog.info? 128).map (·.size)=some (arrP p).size:=by
 show _=some 3;kernel_rfl
def SrK (w:World) (B:Nat) (o:Option Sr) (s:Sr) (sv tv:Value):Prop:=match o with
 |Option.none=>s=sr0∧sv=noV∧tv=noV
 |Option.some s'=>s=s'∧SlD w B sv s'.segs∧∃A n c,tv=.slice A n c
theorem RtPost13.get {q:Option Sr×Ad} {h:Hd} {B:Nat} {e:Ending} {w':World} (k:RtPost13 (.ok q) {pm0 with h:=h} B e w') :
  ∃s sv tv,e=.returned (.tuple #[.agg (arrPk {pm0 with h:=h,rt:=q.1.isSome,s:=s,sv:=sv,tv:=tv,f:=q.2}),.int .i64 0])∧sv.oneCell'=true∧tv.oneCell'=true ∧
   SrK w' B q.1 s sv tv:=by
 obtain⟨o,f⟩:=q;cases o with
 |none=>exact⟨sr0,noV,noV,k,rfl,rfl,rfl,rfl,rfl⟩
 |some s=>
  obtain⟨sv,A,m,c,rfl,hs⟩:=k;exact⟨s,sv,_,rfl,Sl.one hs,rfl,rfl,hs,_,_,_,rfl⟩
theorem sr_keep {w w1 w2:World} {B B0 g g0:Nat} {o:Option Sr} {s:Sr} {sv tv:Value} (h:SrK w B o s sv tv)
  (h1:Chg [g] w w1) (hg:w.heap.size≤g) (h2:Chg [g0] w1 w2) (h0:g0<B) (hB:B0≤B) :
  SrK w2 B0 o s sv tv:=by
 cases o with
 |none=>exact h
 |some s'=>exact⟨h.1,Sl.less (Sl.chg (Sl.new h.2.1 h1 (by simp;exact hg)) h2 (by simp;exact h0)) hB,h.2.2⟩
theorem rparse_big {w:World} {v:Value} {l:By} (h:SlY w 0 v l) (hb:okB l) (hl:l.length≤9223372036854775807) :
  Calls Tryz.prog 11 #[v] w fun e w'=>PkPost (parseS l) w.heap.size e w'∧Chg [] w w':=by
 obtain⟨A,c,rfl⟩:=h.form;have hA:=((Chg.refl [] w).alloc (.cells (arrPk pm0) 42)).alloc (.cells (arrPk pm0) 42);have hR:Blk ((w.alloc (.cells (arrPk pm0) 42)).alloc (.cells (arrPk pm0) 42)) w.heap.size 42 (arrPk pm0):=(Blk.new _ _ _).alloc _
 have hZ:Blk ((w.alloc (.cells (arrPk pm0) 42)).alloc (.cells (arrPk pm0) 42)) (w.heap.size+1) 42 (arrPk pm0):=Blk.new' (by simp);have HA:=zH hA;have HXX:=zH (parseS_rt l);have HS:=zH (fun W (hc:Chg [] w W)=>h.chg0 hc);have HOK:=zH hb;generalize parseS l=x at *;clear h hb
 by_cases hlong:1500<l.length
 ·have hX:=HXX.out;rw[if_pos hlong]at hX;replace hX:=zH hX;have hI:(l.length:Int)>1500:=by omega
  clear HXX HS HOK hA;go_enter Tryz.func11,Tryz.ntmps11
  go_wp2_with (first
   |(refine zl rfl 42 (.tmp 4) rfl hZ rfl _ Tryz.underlying42 rfl infPkD ?_)
   |(refine zs (vs:=arrPk pm0) rfl 42 (.tmp 2) (.tmp 13) rfl rfl hR rfl rfl rfl infPkD rfl ?_;intro w9 hB9 hc9)
   |fail)
  refine bodyPost_ret (zr rfl rfl hB9 _ Tryz.underlying42 rfl infPkD) rfl ?_;refine⟨?_,?_⟩
  ·rw[hX.out];rfl
  ·exact HA.out.trans' hc9 (zN (by omega))
 have hI:¬(l.length:Int)>1500:=by omega
 have hl:l.length≤1000000:=by omega
 have hX:=HXX.out;rw[if_neg hlong]at hX;replace HXX:=zH hX;have FG:=zH (rget_any (HS.out _ hA) HOK.out hl);have HGF:=zH (fun h (k:getH l=.ok h)=>getH_fine k HOK.out);have HGE:=zH (fun n (k:getH l=.error n)=>getH_err k);unfold getV at FG;generalize getH l=y at *;have hl15:l.length≤1500:=by omega
 clear hX hlong hA;go_enter Tryz.func11,Tryz.ntmps11
 go_wp2_with fail;refine FG.out.mono ?_;rintro e wa ⟨rfl,hca⟩;have hRa:=(hR.chg hca (by simp)).alloc (.cells arrH0 26);have hZa:=(hZ.chg hca (by simp)).alloc (.cells arrH0 26);have hHa:Blk (wa.alloc (.cells arrH0 26)) wa.heap.size 26 arrH0:=Blk.new _ _ _
 have HCa:=zH ((HA.out.trans hca).alloc (.cells arrH0 26));have hza:=(HA.out.trans hca).size;have hlt:=(hZ.chg hca (by simp)).lt;clear FG hR hZ HA hca;cases y with
 |error n=>
  have hn:=HGE.out n rfl;have hX:=zH HXX.out;simp only at hX;have hJ:(n !=0)=true:=by simpa using hn
  clear HXX HGE HGF hn HS HOK;go_wp2_with (first
   |(refine zs (vs:=arrH0) rfl 26 (.tmp 5) (.tmp 17) rfl rfl hHa rfl rfl rfl infH0 rfl ?_;intro wb hHb hcb;have hZb:=hZa.chg hcb (by simp;omega);have hRb:=hRa.chg hcb (by simp;omega))
   |(refine zl rfl 42 (.tmp 4) rfl hZb rfl _ Tryz.underlying42 rfl infPkD ?_)
   |(refine zs (vs:=arrPk pm0) rfl 42 (.tmp 2) (.tmp 21) rfl rfl hRb rfl rfl rfl infPkD rfl ?_;intro w9 hB9 hc9)
   |fail)
  refine bodyPost_ret (zr rfl rfl hB9 _ Tryz.underlying42 rfl infPkD) rfl ?_;exact⟨by rw[hX.out];rfl,(HCa.out.trans' hcb (zN (by omega))).trans' hc9 (zN (by omega))⟩
 |ok h=>
  obtain⟨hos,hod,h40⟩:=HGF.out h rfl;have hX:=HXX.out;simp only at hX;have hw:IntKind.i64.wrap ((l.length:Int)-40)=(l.length:Int)-40:=by rw[IntKind.wrap_i64];omega
  replace HXX:=zH hX;clear hX HGE HGF;by_cases hlen:h.len=(l.length:Int)-40
  case neg=>
   have hX:=HXX.out;rw[if_pos hlen]at hX;replace hX:=zH hX;have hJ:(h.len !=(l.length:Int)-40)=true:=by simpa using hlen
   clear HXX hlen HS HOK;go_wp2_with (first
    |(refine zs (vs:=arrH h) rfl 26 (.tmp 5) (.tmp 17) rfl rfl hHa rfl rfl rfl infH rfl ?_;intro wb hHb hcb;have hZb:=hZa.chg hcb (by simp;omega);have hRb:=hRa.chg hcb (by simp;omega);have q2:wb.cell? ⟨wa.heap.size,2,none⟩=some (.int .i64 h.len):=hHb.cell 2)
    |(refine zl rfl 42 (.tmp 4) rfl hZb rfl _ Tryz.underlying42 rfl infPkD ?_)
    |(refine zs (vs:=arrPk pm0) rfl 42 (.tmp 2) (.tmp 29) rfl rfl hRb rfl rfl rfl infPkD rfl ?_;intro w9 hB9 hc9)
    |fail)
   refine bodyPost_ret (zr rfl rfl hB9 _ Tryz.underlying42 rfl infPkD) rfl ?_;exact⟨by rw[hX.out];rfl,(HCa.out.trans' hcb (zN (by omega))).trans' hc9 (zN (by omega))⟩
  have hX:=HXX.out;rw[if_neg (by simpa using hlen)]at hX;replace HXX:=zH hX;have hJ:(h.len !=(l.length:Int)-40)=false:=by simpa using hlen
  have FW:=zH (fun W (hc:Chg [] w W)=>rwalk_any (HS.out W hc) HOK.out hl h.nxt h40);have HWF:=zH (fun L (k:walkS l h.nxt 40=.ok L)=>walkS_len k);have HWE:=zH (fun n (k:walkS l h.nxt 40=.error n)=>walkS_err k);generalize walkS l h.nxt 40=y at *;clear hX hlen;go_wp2_with (first
   |(refine zs (vs:=arrH h) rfl 26 (.tmp 5) (.tmp 17) rfl rfl hHa rfl rfl rfl infH rfl ?_;intro wb hHb hcb;have hZb:=hZa.chg hcb (by simp;omega);have hRb:=hRa.chg hcb (by simp;omega);have q2:wb.cell? ⟨wa.heap.size,2,none⟩=some (.int .i64 h.len):=hHb.cell 2;have q3:wb.cell? ⟨wa.heap.size,3,none⟩=some (.int .i64 h.nxt):=hHb.cell 3)
   |fail)
  have HCb:=zH (HCa.out.trans' hcb (zN (by omega)));refine (FW.out wb HCb.out).mono ?_;rintro e wc ⟨hp,hcc⟩;have hRc:=hRb.chg hcc (by simp);have hZc:=hZb.chg hcc (by simp);have HWC:=zH hZc.lt;have hHc:=hHb.chg hcc (by simp);have HCc:=zH (HCb.out.trans hcc)
  clear FW hRb hZb hHb HCb hcb q2 q3 hRa hZa hHa HCa hcc;cases y with
  |error n=>
   obtain rfl:e=_:=hp;have hn:=HWE.out n rfl;have hX:=zH HXX.out;simp only at hX;have hJ2:(n !=0)=true:=by simpa using hn
   clear HXX HWE HWF hn HS HOK;go_wp2_with (first
    |(refine zl rfl 42 (.tmp 4) rfl hZc rfl _ Tryz.underlying42 rfl infPkD ?_)
    |(refine zs (vs:=arrPk pm0) rfl 42 (.tmp 2) (.tmp 39) rfl rfl hRc rfl rfl rfl infPkD rfl ?_;intro w9 hB9 hc9)
    |fail)
   refine bodyPost_ret (zr rfl rfl hB9 _ Tryz.underlying42 rfl infPkD) rfl ?_;refine⟨?_,?_⟩
   ·rw[hX.out];rfl
   ·exact HCc.out.trans' hc9 (zN (by omega))
  |ok L=>
   obtain⟨pv,rfl,hop⟩:=hp;obtain⟨hL0,hL9,hLat⟩:=HWF.out L rfl;have hX:=HXX.out;simp only at hX;replace HXX:=zH hX;have HPS:=zH (fun W (hc:Chg [] wc W)=>Sl.less (B':=0) (Sl.chg0 (Sl.of_own hop) hc) (Nat.zero_le _));obtain⟨A2,c2,rfl⟩:=Sl.form (Sl.of_own hop)
   have FR:=zH (rroute_any (p:={pm0 with h:=h}) (HS.out wc HCc.out) HOK.out hl h40 hL0 (by omega) (Sl.less (Sl.of_own hop) (Nat.zero_le _)) hod rfl);have HRE:=zH (fun n (k:rtS l h L=.error n)=>rtS_err k);have HRF:=zH (fun q (k:rtS l h L=.ok q)=>rtS_fine k HOK.out hod)
   obtain⟨pt,hpt⟩:∃pt,pt=L.getLastD default:=⟨_,rfl⟩;have hpi:L[L.length-1]?=some pt:=by
    rw[hpt,List.getLastD_eq_getLast?,List.getLast?_eq_getElem?];rw[List.getElem?_eq_getElem (by omega)];rfl
   have HROW:Hid (∃b o,A2=some ⟨b,o,none⟩∧∀W,Chg [] wc W→W.rangeAt b (o+(L.length-1)*3) (arrP pt).toList):=zH (by
    obtain⟨b,o,c',hv,_,_,_⟩:=Sl.at_ (Sl.of_own hop) hL0 (by omega);simp only[Value.slice.injEq]at hv;refine⟨b,o,hv.1,fun W hc=>?_⟩;obtain⟨b',o',c'',hv',_,_,hx⟩:=Sl.rec encP_len (by omega) (Sl.of_own hop) hpi;simp only[Value.slice.injEq]at hv';have e:=hv.1.symm.trans hv'.1
    simp only[Option.some.injEq,Addr.mk.injEq,and_true]at e;obtain⟨rfl,rfl⟩:=e;refine rangeAt_chg (fun j u hu=>?_) hc (by simp);have hj:j<3:=(List.getElem?_eq_some_iff.1 hu).1;rw[Nat.add_assoc,hx j hj];exact hu)
   rw[←hpt]at HXX hLat;obtain⟨b,o,rfl,hrow⟩:=HROW.out;have HRW:=zH hrow;have HBW:Hid (b<wc.heap.size):=zH (World.block_lt_of_cell? wc _ (hrow wc (Chg.refl _ _) 0 _ rfl));generalize rtS l h L=y at *;have HPT:=zH hpt;clear hX HWE HWF hop hpt hpi hrow HROW HPS HPT;generalize L.length=N at *
   go_wp2_with (first
    |(refine zl rfl 26 (.tmp 5) rfl hHc rfl _ Tryz.underlying26 rfl infH ?_)
    |fail)
   refine Eq.mpr (congrArg (fun z=>Calls Tryz.prog 43 #[.agg z,.slice A l.length c,.slice (some ⟨b,o,none⟩) N c2] wc _) (?_:_=arrPk {pm0 with h:=h})) ?_
   ·kernel_rfl
   refine FR.out.mono ?_;rintro e wd ⟨hp,hcd⟩;have hRd:=(hRc.chg hcd (by simp)).alloc (.cells (arrPk pm0) 42);have hZd:=(hZc.chg hcd (by simp)).alloc (.cells (arrPk pm0) 42);have hHd:=(hHc.chg hcd (by simp)).alloc (.cells (arrPk pm0) 42)
   have hPd:Blk (wd.alloc (.cells (arrPk pm0) 42)) wd.heap.size 42 (arrPk pm0):=Blk.new _ _ _;have HCd:=zH ((HCc.out.trans hcd).alloc (.cells (arrPk pm0) 42));have hltd:=(hHc.chg hcd (by simp)).lt;clear FR hRc hZc hHc;cases y with
   |error n=>
    obtain⟨cs,hz,hone,rfl⟩:=hp;have hn:=HRE.out n rfl;have hX:=zH HXX.out;simp only at hX;have hJ2:(n !=0)=true:=by simpa using hn
    clear HXX HRE hn HS HOK HRW hcd;go_wp2_with (first
     |(refine zs (vs:=cs) rfl 42 (.tmp 8) (.tmp 47) rfl rfl hPd rfl rfl (by simp[hz]) (by rw[hz];exact infPkD (p:=pm0)) hone ?_;intro we hPe hce;have hZe:=hZd.chg hce (by simp;omega);have hRe:=hRd.chg hce (by simp;omega))
     |(refine zl rfl 42 (.tmp 4) rfl hZe rfl _ Tryz.underlying42 rfl infPkD ?_)
     |(refine zs (vs:=arrPk pm0) rfl 42 (.tmp 2) (.tmp 51) rfl rfl hRe rfl rfl rfl infPkD rfl ?_;intro w9 hB9 hc9)
     |fail)
    refine bodyPost_ret (zr rfl rfl hB9 _ Tryz.underlying42 rfl infPkD) rfl ?_;exact⟨by rw[hX.out];rfl,(HCd.out.trans' hce (zN (by omega))).trans' hc9 (zN (by omega))⟩
   |ok q=>
    obtain⟨s,sv,tv,rfl,hsv,htv,hsr⟩:=RtPost13.get hp;have hX:=HXX.out;simp only at hX;replace HXX:=zH hX;have hoq:=HRF.out q rfl;have HS0:=zH (And.intro hsv (And.intro htv hsr))
    have HONE:Hid (∀(k:Int) (t:Sg) (ov pv:Value) (a m d:Nat) (mb bv:Value),ov.oneCell'=true→pv.oneCell'=true→mb.oneCell'=true→bv.oneCell'=true→(arrPk {pm0 with h:=h,rt:=q.1.isSome,s:=s,sv:=sv,tv:=tv,f:=q.2,k:=k,t:=t,ov:=ov,pv:=pv,mkd:=a,mc:=m,mw:=d,mb:=mb,bv:=bv}).toList.all (·.oneCell')=true):=
     zH (fun k t ov pv a m d mb bv h1 h2 h3 h4=>pk_one _ ⟨hsv,htv,h1,h2,h3,h4⟩)
    have hone1:=HONE.out 0 tc0 noV noV 0 0 0 noV noV rfl rfl rfl rfl;have HRX:=zH (fun W (hc:Chg [wd.heap.size] wd W)=>(rangeAt_chg (HRW.out wd hcd) hc (by
     intro hm;have:=HBW.out;have:=hcd.size;simp at hm;omega):W.rangeAt b (o+(N-1)*3) (arrP pt).toList))
    have hwN:IntKind.i64.wrap ((N:Int)-1)=((N-1:Nat):Int):=by rw[IntKind.wrap_i64];omega
    have hiN:((N-1:Nat):Int)<(N:Int):=by omega
    have HCd9:Hid (w.heap.size≤wd.heap.size):=zH (HCc.out.trans hcd).size;clear hX hsv htv hsr HRE hp hcd HRW;go_upto_region 15 with (first
     |(refine zs (vs:=arrPk {pm0 with h:=h,rt:=q.1.isSome,s:=s,sv:=sv,tv:=tv,f:=q.2}) rfl 42 (.tmp 8) (.tmp 47) rfl rfl hPd rfl rfl rfl infPkD hone1 ?_;intro we hPe hce;have hZe:=hZd.chg hce (by simp;omega);have hRe:=hRd.chg hce (by simp;omega);have hHe:=hHd.chg hce (by simp;omega))
     |fail)
    have hcde:Chg [wd.heap.size] wd we:=((Chg.refl [wd.heap.size] wd).alloc _).trans hce;have hrow:=HRX.out we hcde;have HWD:=zH hcde;have HCe:=zH (HCd.out.trans' hce (zN (by omega)));clear hce hcde HRX hRd hZd hHd hPd HCd hone1;have hHl:=hHe.lt;have hPl:=hPe.lt
    have hB0:Blk (we.alloc (.cells #[.int .i64 0,.int .i64 0,.int .i64 0] 128)) we.heap.size 128 #[.int .i64 0,.int .i64 0,.int .i64 0]:=Blk.new _ _ _
    have HE0:=zH (And.intro (hPe.alloc (.cells #[.int .i64 0,.int .i64 0,.int .i64 0] 128)) (And.intro (hZe.alloc (.cells #[.int .i64 0,.int .i64 0,.int .i64 0] 128)) (And.intro (hRe.alloc (.cells #[.int .i64 0,.int .i64 0,.int .i64 0] 128)) (And.intro (hHe.alloc (.cells #[.int .i64 0,.int .i64 0,.int .i64 0] 128)) (HCe.out.alloc (.cells #[.int .i64 0,.int .i64 0,.int .i64 0] 128))))))
    clear hPe hZe hRe hHe HCe;go_upto_region 16 with (first
     |(refine wpList_load_mid rfl 128 (.tmp 57) rfl b (o+(N-1)*3) rfl (arrP pt).toList _ hrow Tryz.underlying128 rfl infP5 ?_)
     |(refine zs (vs:=arrP pt) rfl 128 (.tmp 9) (.tmp 58) rfl rfl hB0 rfl rfl rfl infP5 rfl ?_;intro wf hTf hcf)
     |fail)
    obtain⟨hPf,hZf,hRf,hHf,hCf⟩:=HE0.out;replace hPf:=hPf.chg hcf (by simp;omega);replace hZf:=hZf.chg hcf (by simp;omega);replace hRf:=hRf.chg hcf (by simp;omega);replace hHf:=hHf.chg hcf (by simp;omega);have HCf:=zH (hCf.trans' hcf (zN (by omega)));have HPf:=zH hPf
    have HWF2:=zH ((HWD.out.alloc (.cells #[.int .i64 0,.int .i64 0,.int .i64 0] 128)).trans' hcf (by intro x hx;simp at hx;subst hx;right;exact HWD.out.size));have S0:=zH (fun W (hc:Chg [wd.heap.size] wf W)=>(hTf.chg hc (by simp;omega)).cell 0)
    have S1:=zH (fun W (hc:Chg [wd.heap.size] wf W)=>(hTf.chg hc (by simp;omega)).cell 1);obtain⟨X,hXr,hXs⟩:=cutYf (HS.out wf HCf.out) (lo:=pt.at_) hLat;have HXS:=zH (fun W (hc:Chg [] wf W)=>hXs.chg0 hc);have HDL:Hid ((l.drop pt.at_).length=l.length-pt.at_):=zH List.length_drop
    have hD:Chg [] wf wf.drew:=(Chg.refl [] wf).drew;have hD':(fun W:World=>Chg [wd.heap.size] wf W) wf.drew:=hD.more (by simp);clear hCf hcf hrow hPf HE0 hB0 hXs;refine wp_region_noPanic ?_;refine wp_region_held_drew (S:=fun W:World=>Chg [wd.heap.size] wf W) (by kernel_rfl) hD' (fun _=>?_)
    refine zU 0 rfl (by go_simp<;>with_reducible rfl) ?_
    try simp only[zP]
    refine zT 1 rfl (zc (by rfl) 3 (.tmp 59) rfl we.heap.size 0 rfl (.int .i64 pt.kind) _ S0.out Tryz.underlying3 rfl) ?_
    try simp only[zP]
    refine zU 3 rfl (by go_simp<;>with_reducible rfl) ?_
    try simp only[zP]
    refine zU 4 rfl (by go_simp<;>with_reducible rfl) ?_
    try simp only[zP]
    refine zT 5 rfl (zc (by rfl) 3 (.tmp 63) rfl we.heap.size 1 rfl (.int .i64 (pt.at_:Nat)) _ S1.out Tryz.underlying3 rfl) ?_
    try simp only[zP]
    refine zU 6 rfl (by go_simp<;>with_reducible rfl) ?_
    try simp only[zP]
    refine zU 8 rfl (by go_simp<;>with_reducible rfl) ?_
    try simp only[zP]
    refine zR 2 rfl (fun K hK=>?_);refine step_run (v:=.slice (some ⟨wf.drew.heap.size,0,none⟩) 0 0) (w':=wf.drew.alloc (.cells #[] 5)) rfl (by go_simp<;>rfl) ?_;have hS1:Chg [] wf (wf.drew.alloc (.cells #[] 5)):=hD.alloc _
    have hS1':(fun W:World=>Chg [wd.heap.size] wf W) (wf.drew.alloc (.cells #[] 5)):=hS1.more (by simp);have ho1:(wf.drew.alloc (.cells #[] 5)).ownsRow wf.heap.size 5 1 (.slice (some ⟨wf.drew.heap.size,0,none⟩) 0 0) 0 []:=own_lit (base:=wf.heap.size) wf.drew 5 1 0 #[] hD.size (by simp[maxLen]) rfl
    refine zB hK ?_;clear hK K
    try simp only[zP]
    refine zR 7 rfl (fun K hK=>?_);refine step_app elY rfl (.tmp 61) (.tmp 65) rfl wf.heap.size rfl ho1 rfl (HXS.out _ hS1) (byV_one _) (by rw[HDL.out];unfold maxLen;omega) (by rw[HDL.out];omega) hS1.size ?_;intro v3 wg hown3 hc3 hb3
    have hS3:Chg [] wf wg:=hS1.trans' hc3 (fun x hx=>.inr (own_lt ho1 x hx).1);have hS3':(fun W:World=>Chg [wd.heap.size] wf W) wg:=hS3.more (by simp);have HOW:Hid (OwY wg wf.heap.size v3 (l.drop pt.at_)):=zH (by unfold OwY;simpa using hown3);obtain⟨A3,c3,rfl⟩:=Sl.form (Sl.of_own hown3)
    have hB3:=HPf.out.chg hS3 (by simp);clear hown3 hc3 hb3 ho1 hS1 hS1';refine zB hK ?_;clear hK K
    try simp only[zP]
    refine zR 9 rfl (fun K hK=>?_);refine step_store_cell (v:=.int .i64 pt.kind) rfl 3 (.tmp 67) (.tmp 60) rfl hB3 rfl rfl rfl (by show _<76;omega) (by kernel_rfl) rfl ?_;intro wh hB4 hc4;have hS4':(fun W:World=>Chg [wd.heap.size] wf W) wh:=Chg.trans hS3' hc4;refine zB hK ?_;clear hK K
    try simp only[zP]
    refine zU 10 rfl (by go_simp<;>with_reducible rfl) ?_
    try simp only[zP]
    refine zR 11 rfl (fun K hK=>?_);refine step_store_cell (v:=.slice A3 (0+(l.drop pt.at_).length) c3) rfl 22 (.tmp 68) (.tmp 66) rfl hB4 rfl rfl rfl (by show _<76;omega) (by kernel_rfl) rfl ?_;intro wi hB5 hc5;have hS5':(fun W:World=>Chg [wd.heap.size] wf W) wi:=Chg.trans hS4' hc5
    have hgi:Chg [wd.heap.size] wg wi:=hc4.trans hc5;refine zB hK ?_;clear hK K
    try simp only[zP]
    refine wpAnyH_done (by kernel_rfl) ?_ _;refine NoPanic.normal ?_;have hPi:Blk wi wd.heap.size 42 (arrPk {pm0 with h:=h,rt:=q.1.isSome,s:=s,sv:=sv,tv:=tv,f:=q.2,k:=pt.kind,bv:=.slice A3 (0+(l.drop pt.at_).length) c3}):=by
     rw[pk_kb]at hB5;exact hB5
    have hPlf:=hPi.lt;have hPlg:=HPf.out.lt;have HOWi:Hid (OwY wi wf.heap.size (.slice A3 (0+(l.drop pt.at_).length) c3) (l.drop pt.at_)):=zH (own_chg HOW.out hgi (fun y hy hm=>by have:=(own_lt HOW.out y hy).1;have:=HPf.out.lt;simp at hm;omega));have hZi:=hZf.chg hS5' (by simp;omega)
    have hRi:=hRf.chg hS5' (by simp;omega);have hHi:=hHf.chg hS5' (by simp;omega);have HWI:=zH (HWF2.out.trans hS5');have HCi:=zH (HCf.out.trans' hS5' (by intro x hx;simp at hx;subst hx;right;have:=HCd9.out;omega))
    clear hB3 hB4 hB5 hc4 hc5 hS3 hS3' hS4' hS5' hgi hD hD' HOW HXS S0 S1 hZf hRf hHf HCf HPf hTf hXr;obtain⟨n3,hn3⟩:∃n,n=0+(l.drop pt.at_).length:=⟨_,rfl⟩;rw[←hn3]at hPi HOWi ⊢;clear hn3;have k60:wi.cell? ⟨wd.heap.size,60,none⟩=some (.int .i64 pt.kind):=hPi.cell 60
    have HUX:Hid (upS h.src q.2 pt.kind (l.drop pt.at_)=if pt.kind=6 then (match tcpS (l.drop pt.at_) with | .error e=>.error e | .ok t=>if fineC h.src q.2 6 (l.drop pt.at_)=false then .error 6 else .ok (.tcp t)) else if pt.kind=58 then (match icmpS h.src q.2 (l.drop pt.at_) with | .error e=>.error e | .ok m=>.ok (.msg m)) else .error 7):=zH rfl
    generalize upS h.src q.2 pt.kind (l.drop pt.at_)=ux at *;by_cases h6:pt.kind=6
    ·have hu:=HUX.out;rw[if_pos h6]at hu;replace HUX:=zH hu;have j6:(pt.kind==6)=true:=by simpa using h6
     have FT:=zH (rtparse_any (Sl.less (B':=0) (OwY.sl HOWi.out) (Nat.zero_le _)) (HOK.out.drop pt.at_) (by rw[List.length_drop];omega));have HTE:=zH (fun n (k:tcpS (l.drop pt.at_)=.error n)=>tcpS_nz k);have k75:wi.cell? ⟨wd.heap.size,75,none⟩=some (.slice A3 n3 c3):=hPi.cell 75
     generalize tcpS (l.drop pt.at_)=y at *;clear hu h6;go_wp2_with fail;refine FT.out.mono ?_;rintro e wj ⟨hp,hcj⟩;have hPj:=hPi.chg hcj (by simp);have hZj:=hZi.chg hcj (by simp);have hRj:=hRi.chg hcj (by simp);have hHj:=hHi.chg hcj (by simp);have HCj:=zH (HCi.out.trans hcj)
     have HWJ:=zH (HWI.out.trans (hcj.more (T:=[wd.heap.size]) (by simp)));have HBODY:=zH (Sl.chg0 (OwY.sl HOWi.out) hcj);have hzj:=hcj.size;clear FT hPi hZi hRi hHi k60 k75 HOWi hcj;cases y with
     |error n=>
      obtain rfl:e=_:=hp;have hn:=HTE.out n rfl;have hJ9:(n !=0)=true:=by simpa using hn
      have hJ0:(n==0)=false:=by simpa using hn
      have hu:=HUX.out;simp only at hu;subst hu;have hX:=HXX.out;simp only at hX;replace hX:=zH hX;have HEND:=zH (And.intro hZj hRj);clear HXX HUX HTE hn HS HOK HONE HWJ HS0 hZj hRj hHj HBODY;go_upto_region 21 with (first
       |(refine wpList_store_part (vs:=arrTc tc0 noV noV) rfl 34 (.tmp 79) (.tmp 77) rfl rfl hPj 61 rfl rfl (by show 61+10≤76;omega) infTc rfl (pk_tcp _ tc0 noV noV) ?_;intro wk hPk hck)
       |fail)
      obtain⟨hZj,hRj⟩:=HEND.out;have hZk:=hZj.chg hck (by simp;omega);have hRk:=hRj.chg hck (by simp;omega);have HCk:=zH (HCj.out.trans' hck (by intro x hx;simp at hx;subst hx;right;exact HCd9.out));clear hPj hPk hck HEND hZj hRj;go_upto_region 25 with fail
      go_upto_region 26 with fail
      go_wp2_with (first
       |(refine zl rfl 42 (.tmp 4) rfl hZk rfl _ Tryz.underlying42 rfl infPkD ?_)
       |(refine zs (vs:=arrPk pm0) rfl 42 (.tmp 2) (.tmp 107) rfl rfl hRk rfl rfl rfl infPkD rfl ?_;intro w9 hB9 hc9)
       |fail)
      refine bodyPost_ret (zr rfl rfl hB9 _ Tryz.underlying42 rfl infPkD) rfl ?_;refine⟨?_,?_⟩
      ·rw[hX.out];rfl
      ·exact HCk.out.trans' hc9 (zN (by omega))
     |ok m=>
      obtain⟨A7,n7,c7,A8,n8,c8,rfl,hsl7⟩:=hp;have hu:=HUX.out;simp only at hu;replace HUX:=zH hu;have hOne:=HONE.out pt.kind m.t (.slice A8 n8 c8) (.slice A7 n7 c7) 0 0 0 noV (.slice A3 n3 c3) rfl rfl rfl rfl;have HEND:=zH (And.intro hZj (And.intro hRj (And.intro hHj (And.intro hsl7 hOne))))
      have FC:=zH (fun W (h:SlY W 0 (.slice A3 n3 c3) (l.drop pt.at_))=>rfine_any hos hoq 6 h (HOK.out.drop pt.at_) (by rw[List.length_drop];omega));generalize fineC h.src q.2 6 (l.drop pt.at_)=fc at *;clear hu HTE HS HOK HONE hZj hRj hHj hsl7 hOne;go_upto_region 21 with (first
       |(refine wpList_store_part (vs:=arrTc m.t (.slice A8 n8 c8) (.slice A7 n7 c7)) rfl 34 (.tmp 79) (.tmp 77) rfl rfl hPj 61 rfl rfl (by show 61+10≤76;omega) infTc rfl (pk_tcp _ m.t (.slice A8 n8 c8) (.slice A7 n7 c7)) ?_;intro wk hPk hck)
       |fail)
      obtain⟨hZj,hRj,hHj,hsl7,hOne⟩:=HEND.out;have hZk:=hZj.chg hck (by simp;omega);have hRk:=hRj.chg hck (by simp;omega);have hHk:=hHj.chg hck (by simp;omega);have HCk:=zH (HCj.out.trans' hck (by intro x hx;simp at hx;subst hx;right;exact HCd9.out));have HWK:=zH (HWJ.out.trans hck)
      have HBOk:=zH (Sl.chg HBODY.out hck (by simp;omega));have HS7:=zH (Sl.chg hsl7 hck (by simp;omega));have HONEk:=zH hOne;have k75:wk.cell? ⟨wd.heap.size,75,none⟩=some (.slice A3 n3 c3):=hPk.cell 75;clear hPj hck HEND hZj hRj hHj hsl7 hOne HBODY HCj HWJ
      have s0:wk.cell? ⟨wa.heap.size,5,none⟩=some (.int .u8 h.src.a0):=hHk.cell 5;have f0:wk.cell? ⟨wd.heap.size,44,none⟩=some (.int .u8 q.2.a0):=hPk.cell 44;have s1:wk.cell? ⟨wa.heap.size,6,none⟩=some (.int .u8 h.src.a1):=hHk.cell 6
      have f1:wk.cell? ⟨wd.heap.size,45,none⟩=some (.int .u8 q.2.a1):=hPk.cell 45;have s2:wk.cell? ⟨wa.heap.size,7,none⟩=some (.int .u8 h.src.a2):=hHk.cell 7;have f2:wk.cell? ⟨wd.heap.size,46,none⟩=some (.int .u8 q.2.a2):=hPk.cell 46
      have s3:wk.cell? ⟨wa.heap.size,8,none⟩=some (.int .u8 h.src.a3):=hHk.cell 8;have f3:wk.cell? ⟨wd.heap.size,47,none⟩=some (.int .u8 q.2.a3):=hPk.cell 47;have s4:wk.cell? ⟨wa.heap.size,9,none⟩=some (.int .u8 h.src.a4):=hHk.cell 9
      have f4:wk.cell? ⟨wd.heap.size,48,none⟩=some (.int .u8 q.2.a4):=hPk.cell 48;have s5:wk.cell? ⟨wa.heap.size,10,none⟩=some (.int .u8 h.src.a5):=hHk.cell 10;have f5:wk.cell? ⟨wd.heap.size,49,none⟩=some (.int .u8 q.2.a5):=hPk.cell 49
      have s6:wk.cell? ⟨wa.heap.size,11,none⟩=some (.int .u8 h.src.a6):=hHk.cell 11;have f6:wk.cell? ⟨wd.heap.size,50,none⟩=some (.int .u8 q.2.a6):=hPk.cell 50;have s7:wk.cell? ⟨wa.heap.size,12,none⟩=some (.int .u8 h.src.a7):=hHk.cell 12
      have f7:wk.cell? ⟨wd.heap.size,51,none⟩=some (.int .u8 q.2.a7):=hPk.cell 51;have s8:wk.cell? ⟨wa.heap.size,13,none⟩=some (.int .u8 h.src.a8):=hHk.cell 13;have f8:wk.cell? ⟨wd.heap.size,52,none⟩=some (.int .u8 q.2.a8):=hPk.cell 52
      have s9:wk.cell? ⟨wa.heap.size,14,none⟩=some (.int .u8 h.src.a9):=hHk.cell 14;have f9:wk.cell? ⟨wd.heap.size,53,none⟩=some (.int .u8 q.2.a9):=hPk.cell 53;have s10:wk.cell? ⟨wa.heap.size,15,none⟩=some (.int .u8 h.src.a10):=hHk.cell 15
      have f10:wk.cell? ⟨wd.heap.size,54,none⟩=some (.int .u8 q.2.a10):=hPk.cell 54;have s11:wk.cell? ⟨wa.heap.size,16,none⟩=some (.int .u8 h.src.a11):=hHk.cell 16;have f11:wk.cell? ⟨wd.heap.size,55,none⟩=some (.int .u8 q.2.a11):=hPk.cell 55
      have s12:wk.cell? ⟨wa.heap.size,17,none⟩=some (.int .u8 h.src.a12):=hHk.cell 17;have f12:wk.cell? ⟨wd.heap.size,56,none⟩=some (.int .u8 q.2.a12):=hPk.cell 56;have s13:wk.cell? ⟨wa.heap.size,18,none⟩=some (.int .u8 h.src.a13):=hHk.cell 18
      have f13:wk.cell? ⟨wd.heap.size,57,none⟩=some (.int .u8 q.2.a13):=hPk.cell 57;have s14:wk.cell? ⟨wa.heap.size,19,none⟩=some (.int .u8 h.src.a14):=hHk.cell 19;have f14:wk.cell? ⟨wd.heap.size,58,none⟩=some (.int .u8 q.2.a14):=hPk.cell 58
      have s15:wk.cell? ⟨wa.heap.size,20,none⟩=some (.int .u8 h.src.a15):=hHk.cell 20;have f15:wk.cell? ⟨wd.heap.size,59,none⟩=some (.int .u8 q.2.a15):=hPk.cell 59;go_wp2_with fail;clear s0 f0 s1 f1 s2 f2 s3 f3 s4 f4 s5 f5 s6 f6 s7 f7 s8 f8 s9 f9 s10 f10 s11 f11 s12 f12 s13 f13 s14 f14 s15 f15
      refine (FC.out wk (Sl.less (B':=0) HBOk.out (Nat.zero_le _))).mono ?_;rintro e wl ⟨rfl,hcl⟩;have hPl:=hPk.chg hcl (by simp);have hZl:=hZk.chg hcl (by simp);have hRl:=hRk.chg hcl (by simp);have HCl:=zH (HCk.out.trans hcl);have HWL:=zH (HWK.out.trans (hcl.more (T:=[wd.heap.size]) (by simp)))
      have HBOl:=zH (Sl.chg0 HBOk.out hcl);have HS7l:=zH (Sl.chg0 HS7.out hcl);clear FC hPk hZk hRk hHk HCk HWK hcl k75 HBOk HS7;cases fc with
      |false=>
       have hu:=HUX.out;rw[if_pos rfl]at hu;subst hu;have hX:=HXX.out;simp only at hX;replace hX:=zH hX;clear HXX HUX HS0 HWL HBOl HS7l HONEk;go_upto_region 25 with fail
       go_upto_region 26 with fail
       go_wp2_with (first
        |(refine zl rfl 42 (.tmp 4) rfl hZl rfl _ Tryz.underlying42 rfl infPkD ?_)
        |(refine zs (vs:=arrPk pm0) rfl 42 (.tmp 2) (.tmp 107) rfl rfl hRl rfl rfl rfl infPkD rfl ?_;intro w9 hB9 hc9)
        |fail)
       refine bodyPost_ret (zr rfl rfl hB9 _ Tryz.underlying42 rfl infPkD) rfl ?_;refine⟨?_,?_⟩
       ·rw[hX.out];rfl
       ·exact HCl.out.trans' hc9 (zN (by omega))
      |true=>
       have hu:=HUX.out;rw[if_neg (by simp)]at hu;subst hu;have hX:=HXX.out;simp only at hX;replace hX:=zH hX;clear HXX HUX;go_upto_region 25 with fail
       go_upto_region 27 with fail
       go_wp2_with (first
        |(refine zl rfl 42 (.tmp 8) rfl hPl rfl _ Tryz.underlying42 rfl infPkD ?_)
        |(refine zs (vs:=arrPk {pm0 with h:=h,rt:=q.1.isSome,s:=s,sv:=sv,tv:=tv,f:=q.2,k:=pt.kind,t:=m.t,ov:=.slice A8 n8 c8,pv:=.slice A7 n7 c7,bv:=.slice A3 n3 c3}) rfl 42 (.tmp 2) (.tmp 109) rfl rfl hRl rfl rfl rfl infPkD HONEk.out ?_;intro w9 hB9 hc9)
        |fail)
       refine bodyPost_ret (zr rfl rfl hB9 _ Tryz.underlying42 rfl infPkD) rfl ?_;have hPK:PkR w9 w.heap.size {pm0 with h:=h,rt:=q.1.isSome,s:=s,sv:=sv,tv:=tv,f:=q.2,k:=pt.kind,t:=m.t,ov:=.slice A8 n8 c8,pv:=.slice A7 n7 c7,bv:=.slice A3 n3 c3} ⟨h,q.1,q.2,.tcp m,l.drop pt.at_⟩:=
        ⟨rfl,rfl,rfl,by
          have hk:=sr_keep (B0:=w.heap.size) HS0.out.2.2 HWL.out (Nat.le_refl _) hc9 (by have:=HWC.out;omega) (by have:=HWC.out;omega);generalize q.1=o at hk ⊢;cases o<;>exact hk,
         ⟨by simpa using j6,rfl,Sl.less (Sl.chg HS7l.out hc9 (by have:=HCd9.out;simp;omega)) (by have:=HCd9.out;omega)⟩,
         Sl.less (Sl.chg HBOl.out hc9 (by have:=HCd9.out;simp;omega)) (by have:=HCd9.out;omega),HONEk.out⟩
       refine⟨?_,HCl.out.trans' hc9 (zN (by omega))⟩;rw[hX.out];exact⟨_,rfl,hPK⟩
    by_cases h58:pt.kind=58
    ·have hu:=HUX.out;rw[if_neg h6,if_pos h58]at hu;replace HUX:=zH hu;have j6:(pt.kind==6)=false:=by simpa using h6
     have j58:(pt.kind==58)=true:=by simpa using h58
     have FI:=zH (ricmp_any hos hoq (Sl.less (B':=0) (OwY.sl HOWi.out) (Nat.zero_le _)) (HOK.out.drop pt.at_) (by rw[List.length_drop];omega));have k75:wi.cell? ⟨wd.heap.size,75,none⟩=some (.slice A3 (n3) c3):=hPi.cell 75;have HIE:=zH (fun n (k:icmpS h.src q.2 (l.drop pt.at_)=.error n)=>icmpS_nz k)
     generalize icmpS h.src q.2 (l.drop pt.at_)=y at *;clear hu h6 h58;go_wp2_with (first
      |(refine wpList_load_part (vs:=arrA h.src) rfl 24 (.tmp 95) rfl hHi 5 rfl _ Tryz.underlying24 rfl infAd rfl ?_)
      |(refine wpList_load_part (vs:=arrA q.2) rfl 24 (.tmp 97) rfl hPi 44 rfl _ Tryz.underlying24 rfl infAd (pk_f _) ?_)
      |fail)
     refine FI.out.mono ?_;rintro e wj ⟨hp,hcj⟩;have hPj:=hPi.chg hcj (by simp);have hZj:=hZi.chg hcj (by simp);have hRj:=hRi.chg hcj (by simp);have HCj:=zH (HCi.out.trans hcj);have HWJ:=zH (HWI.out.trans (hcj.more (T:=[wd.heap.size]) (by simp)));have hzj:=hcj.size;clear FI hPi hZi hRi hHi k60 k75
     cases y with
     |error n=>
      obtain rfl:e=_:=hp;have hn:=HIE.out n rfl;have hJ9:(n !=0)=true:=by simpa using hn
      have hu:=HUX.out;simp only at hu;subst hu;have hX:=HXX.out;simp only at hX;replace hX:=zH hX;have HEND:=zH (And.intro hZj hRj);clear HXX HUX HIE hn HOWi HS HOK HONE hcj HWJ HS0 hZj hRj;have hJ0:(n==0)=false:=by simpa using hJ9
      go_upto_region 25 with (first
       |(refine wpList_store_part (vs:=arrMs 0 0 0 noV) rfl 36 (.tmp 104) (.tmp 102) rfl rfl hPj 71 rfl rfl (by show 71+4≤76;omega) infMs rfl (pk_msg _ 0 0 0 noV) ?_;intro wk hPk hck)
       |fail)
      obtain⟨hZj,hRj⟩:=HEND.out;have hZk:=hZj.chg hck (by simp;omega);have hRk:=hRj.chg hck (by simp;omega);have HCk:=zH (HCj.out.trans' hck (by intro x hx;simp at hx;subst hx;right;exact HCd9.out));clear hPj hPk hck HEND hZj hRj;go_wp2_with (first
       |(refine zl rfl 42 (.tmp 4) rfl hZk rfl _ Tryz.underlying42 rfl infPkD ?_)
       |(refine zs (vs:=arrPk pm0) rfl 42 (.tmp 2) (.tmp 107) rfl rfl hRk rfl rfl rfl infPkD rfl ?_;intro w9 hB9 hc9)
       |fail)
      refine bodyPost_ret (zr rfl rfl hB9 _ Tryz.underlying42 rfl infPkD) rfl ?_;refine⟨?_,?_⟩
      ·rw[hX.out];rfl
      ·exact HCk.out.trans' hc9 (zN (by omega))
     |ok m=>
      obtain⟨A7,n7,c7,rfl,hsl7⟩:=hp;have hu:=HUX.out;simp only at hu;subst hu;have hX:=HXX.out;simp only at hX;replace hX:=zH hX;have hOne:=HONE.out pt.kind tc0 noV noV m.kind m.code m.word (.slice A7 n7 c7) (.slice A3 (n3) c3) rfl rfl rfl rfl;have HEND:=zH (And.intro hRj (And.intro hsl7 hOne))
      have HBODY:=zH (Sl.chg0 (OwY.sl HOWi.out) hcj);clear HXX HUX HIE HS HOK HONE hcj hZj hRj hsl7 hOne;go_upto_region 27 with (first
       |(refine wpList_store_part (vs:=arrMs m.kind m.code m.word (.slice A7 n7 c7)) rfl 36 (.tmp 104) (.tmp 102) rfl rfl hPj 71 rfl rfl (by show 71+4≤76;omega) infMs rfl (pk_msg _ m.kind m.code m.word (.slice A7 n7 c7)) ?_;intro wk hPk hck)
       |fail)
      obtain⟨hRj,hsl7,hOne⟩:=HEND.out;have hRk:=hRj.chg hck (by simp;omega);have HCk:=zH (HCj.out.trans' hck (by intro x hx;simp at hx;subst hx;right;exact HCd9.out));have HWK:=zH (HWJ.out.trans hck);have HOWk:=zH (Sl.chg HBODY.out hck (by simp;omega));have HS7:=zH (Sl.chg hsl7 hck (by simp;omega))
      clear hPj hck HEND hRj hsl7;go_wp2_with (first
       |(refine zl rfl 42 (.tmp 8) rfl hPk rfl _ Tryz.underlying42 rfl infPkD ?_)
       |(refine zs (vs:=arrPk {pm0 with h:=h,rt:=q.1.isSome,s:=s,sv:=sv,tv:=tv,f:=q.2,k:=pt.kind,mkd:=m.kind,mc:=m.code,mw:=m.word,mb:=.slice A7 n7 c7,bv:=.slice A3 (n3) c3}) rfl 42 (.tmp 2) (.tmp 109) rfl rfl hRk rfl rfl rfl infPkD hOne ?_;intro w9 hB9 hc9)
       |fail)
      trace_state
      refine bodyPost_ret (zr rfl rfl hB9 _ Tryz.underlying42 rfl infPkD) rfl ?_;have hPK:PkR w9 w.heap.size {pm0 with h:=h,rt:=q.1.isSome,s:=s,sv:=sv,tv:=tv,f:=q.2,k:=pt.kind,mkd:=m.kind,mc:=m.code,mw:=m.word,mb:=.slice A7 n7 c7,bv:=.slice A3 n3 c3} ⟨h,q.1,q.2,.msg m,l.drop pt.at_⟩:=
       ⟨rfl,rfl,rfl,by
          have hk:=sr_keep (B0:=w.heap.size) HS0.out.2.2 HWK.out (Nat.le_refl _) hc9 (by have:=HWC.out;omega) (by have:=HWC.out;omega);generalize q.1=o at hk ⊢;cases o<;>exact hk,
        ⟨by simpa using j58,rfl,rfl,rfl,Sl.less (Sl.chg HS7.out hc9 (by have:=HCd9.out;simp;omega)) (by have:=HCd9.out;omega)⟩,
        Sl.less (Sl.chg HOWk.out hc9 (by have:=HCd9.out;simp;omega)) (by have:=HCd9.out;omega),hOne⟩
      refine⟨?_,HCk.out.trans' hc9 (zN (by omega))⟩;rw[hX.out];exact⟨_,rfl,hPK⟩
    have hu:=HUX.out;rw[if_neg h6,if_neg h58]at hu;subst hu;have hX:=HXX.out;simp only at hX;replace hX:=zH hX;have j6:(pt.kind==6)=false:=by simpa using h6
    have j58:(pt.kind==58)=false:=by simpa using h58
    clear HXX HUX h6 h58 HOWi hPi HS HOK HONE;go_wp2_with (first
     |(refine zl rfl 42 (.tmp 4) rfl hZi rfl _ Tryz.underlying42 rfl infPkD ?_)
     |(refine zs (vs:=arrPk pm0) rfl 42 (.tmp 2) (.tmp 107) rfl rfl hRi rfl rfl rfl infPkD rfl ?_;intro w9 hB9 hc9)
     |fail)
    refine bodyPost_ret (zr rfl rfl hB9 _ Tryz.underlying42 rfl infPkD) rfl ?_;refine⟨?_,?_⟩
    ·rw[hX.out];rfl
    ·exact HCi.out.trans' hc9 (zN (by omega))
end Go.Proofs.YtgbndaiifbogmaaGreat
