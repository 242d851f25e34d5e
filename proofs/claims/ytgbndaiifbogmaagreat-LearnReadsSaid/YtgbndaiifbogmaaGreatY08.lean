/-
  Small laws and walks on the way to LearnReads: ConnU, Hd, ConnU2. Conditions: each theorem names its own.
-/
import Derived.Test.YtgbndaiifbogmaaGreatY07
set_option linter.unusedVariables false
set_option linter.unusedSimpArgs false
set_option maxRecDepth 100000
set_option maxHeartbeats 8000000
namespace Go.Proofs.YtgbndaiifbogmaaGreat
open Go.RowKit Go.Maps
section
variable {w:World} {tb m1 m2 m3 q nn:Nat} {vs:Value} {sq:Int} {its:List It} {c:TC}
theorem cput_kind (h:CtR w tb m1 m2 m3 q nn vs sq its c) {e:En} (h1:e.kind≠1) (h2:e.kind≠2) :
  Calls Tryz.prog 222 #[.pointer (some ⟨tb,0,none⟩),.agg (arrN e)] w fun x w'=>x=.returned (.bool false)∧Chg [] w w':=by
 have hcA:=(Chg.refl [] w).alloc (.cells (arrN e) 108);have hBf:Blk (w.alloc (.cells (arrN e) 108)) w.heap.size 108 (arrN e):=Blk.new _ _ _;have FF:=zH (cis_any (h.chg0 hcA));have HC1:=zH hcA;have ck:(w.alloc (.cells (arrN e) 108)).cell? ⟨w.heap.size,34,none⟩=some (.int .i64 e.kind):=hBf.cell 34
 clear h hcA;go_enter Tryz.func222,Tryz.ntmps222
 go_upto_region 1 with fail
 generalize w.alloc (.cells (arrN e) 108)=w1 at *;generalize w.heap.size=gf at *;clear hBf;go_wp2_with fail;refine FF.out.mono ?_;rintro e w2 ⟨rfl,rfl⟩;clear FF;have b12:(e.kind !=1&&e.kind !=2)=true:=by simp[h1,h2]
 go_wp2_with fail;go_ret
 exact⟨rfl,HC1.out⟩
theorem CtR.next (h:CtR w tb m1 m2 m3 q nn vs sq its c):CtR (w.setCell ⟨tb,2,none⟩ (.int .i64 (c.last+1))) tb m1 m2 m3 q nn vs sq its ⟨c.n,c.now,c.last+1,c.l⟩:=by
 obtain⟨d1,d2,d3,d4,d5,d6⟩:=h.d1;obtain⟨f1,f2,f3,f4⟩:=h.d2;have hc:Chg [tb] w (w.setCell ⟨tb,2,none⟩ (.int .i64 (c.last+1))):=(Chg.refl [tb] w).setCell (.inl (by simp)) _;obtain⟨s2,h2⟩:=h.on;obtain⟨s3,h3⟩:=h.of
 exact⟨h.blk.set_ 2 _,h.oe.chg hc (by simpa using Ne.symm d1),⟨s2,h2.chg hc (by simpa using Ne.symm d2)⟩,⟨s3,h3.chg hc (by simpa using Ne.symm d3)⟩,
  h.qu.chg hc (by intro x hx e;simp at e;subst e;exact f1 hx),h.d1,h.d2⟩
theorem CtR.pu_fin {w6 w7 w8 w9 w9' w10:World} {e:En} {s2 s3:Nat} {dl:List (En×Int)} {now last n:Int} {s1:Nat} (h:CtR w6 tb m1 m2 m3 q nn vs sq its ⟨n,now,last+1,dl⟩)
  (o1:OM KF w7 m1 (nn+1) (fun y=>if y=e.fl then some (.agg (arrN e)) else mE dl y) s1) (hs1:s1=dl.length+1) (hc7:Chg [m1] w6 w7)
  (o2:OM KF w8 m2 (nn+1) (fun y=>if y=e.fl then some (.int .i64 (last+1)) else mN dl y) s2) (hc8:Chg [m2] w7 w8)
  (o3:OM KZc w9 m3 (nn+1) (fun y=>if y=last+1 then some e.fl.v else mF dl y) s3) (hc9:Chg [m3] w8 w9) (hc9':Chg [] w9 w9')
  (e1:mE (dl ++ [(e,last+1)])=fun g=>if g=e.fl then some (.agg (arrN e)) else mE dl g)
  (e2:mN (dl ++ [(e,last+1)])=fun g=>if g=e.fl then some (.int .i64 (last+1)) else mN dl g)
  (e3:mF (dl ++ [(e,last+1)])=fun g=>if g=last+1 then some e.fl.v else mF dl g)
  (hpm:(its.map fun x=>(x.at_,x.id)).Perm (dl.map fun p=>(p.1.til,p.2)))
  (hT:Turned w9' q vs (sq+1) (fun l'=>l'.Perm (⟨e.til,last+1,sq+1⟩::its)) w10) :
  ∃vs' its',CtR w10 tb m1 m2 m3 q (nn+1) vs' (sq+1) its' ⟨n,now,last+1,dl ++ [(e,last+1)]⟩∧(its'.map fun x=>(x.at_,x.id)).Perm ((dl ++ [(e,last+1)]).map fun p=>(p.1.til,p.2))∧Chg (footT tb m1 m2 m3 q vs) w6 w10∧∀x∈footQ q vs',x∈footQ q vs∨w6.heap.size≤x:=by
 obtain⟨vs',its',hqr,hok,hpp,hcq,hfq⟩:=hT;obtain⟨d1,d2,d3,d4,d5,d6⟩:=h.d1;obtain⟨f1,f2,f3,f4⟩:=h.d2;have hz7:=hc7.size;have hz8:=hc8.size;have hz9:=hc9.size;have hz9':=hc9'.size;have hlt:=h.lt
 have key:∀{x:Nat},x∈footT tb m1 m2 m3 q vs→x∉footQ q vs→x∉footQ q vs':=fun {x} hx hn hm=>(hfq x hm).elim hn (fun h3=>by have:=hlt x hx;omega)
 refine⟨vs',its',⟨?_,?_,⟨s2,?_⟩,⟨s3,?_⟩,⟨hqr,hok⟩,h.d1,key (x:=tb) (by simp[footT]) f1,key (x:=m1) (by simp[footT]) f2,key (x:=m2) (by simp[footT]) f3,key (x:=m3) (by simp[footT]) f4⟩,?_,?_,fun x hx=>(hfq x hx).imp id (fun k=>by omega)⟩
 ·exact ((((h.blk.chg hc7 (by simpa using d1)).chg hc8 (by simpa using d2)).chg hc9 (by simpa using d3)).chg hc9' (by simp)).chg hcq f1
 ·show OM KF w10 m1 (nn+1) (mE (dl ++ [(e,last+1)])) (dl ++ [(e,last+1)]).length;rw[e1];rw[hs1]at o1;rw[List.length_append,List.length_singleton];exact (((o1.chg hc8 (by simpa using d4)).chg hc9 (by simpa using d5)).chg hc9' (by simp)).chg hcq f2
 ·show OM KF w10 m2 (nn+1) (mN (dl ++ [(e,last+1)])) s2;rw[e2];exact ((o2.chg hc9 (by simpa using d6)).chg hc9' (by simp)).chg hcq f3
 ·show OM KZc w10 m3 (nn+1) (mF (dl ++ [(e,last+1)])) s3;rw[e3];exact (o3.chg hc9' (by simp)).chg hcq f4
 ·refine (hpp.map _).trans ?_;rw[List.map_append,List.map_cons];exact (List.Perm.cons _ hpm).trans (List.perm_append_singleton _ _).symm
 ·exact ((((hc7.more (by simp[footT])).trans (hc8.more (by simp[footT]))).trans (hc9.more (by simp[footT]))).trans (hc9'.more (by simp))).trans (hcq.more (fun x hx=>by simp[footT];exact .inr (.inr (.inr (.inr hx)))))
theorem cput_yes {W:World} {S:List Nat} {K:Nat} (h:CtS W w tb K c S) (hK:K≤999) {e:En} (he:okF e.fl) (hk:e.kind=1∨e.kind=2) (hr:hasC c e.fl=true∨(c.l.length:Int)<c.n) :
  Calls Tryz.prog 222 #[.pointer (some ⟨tb,0,none⟩),.agg (arrN e)] w fun x w'=>x=.returned (.bool true)∧CtTo W w tb (K+1) ⟨c.n,c.now,c.last+1,dropL c.l e.fl ++ [(e,c.last+1)]⟩ S w':=by
 have hcA:=(Chg.refl [] w).alloc (.cells (arrN e) 108);have hBf:Blk (w.alloc (.cells (arrN e) 108)) w.heap.size 108 (arrN e):=Blk.new _ _ _;have h1:=h.chg0 hcA;obtain⟨⟨m1,m2,m3,q,nn,vs,sq,its,hcr,hS,hnn,hs0,hs1,hpm⟩,hci,hcW,hnew⟩:=id h1;have FF:=zH (cis_any hcr)
 have F0:=zH (fun W' (hc:Chg [] (w.alloc (.cells (arrN e) 108)) W')=>cfind_any (hcr.chg0 hc) he);have HI:=zH (And.intro hcA (And.intro hBf (And.intro h1 hr)));have HT:=zH hcr;have ck:(w.alloc (.cells (arrN e) 108)).cell? ⟨w.heap.size,34,none⟩=some (.int .i64 e.kind):=hBf.cell 34
 have hsz:(w.alloc (.cells (arrN e) 108)).heap.size=w.heap.size+1:=by simp
 have HGS:=zH (show w.heap.size∉S from fun hx=>Nat.lt_irrefl _ (h.lt _ hx));clear hcA h h1 hcr hnn hs0 hs1 hpm hci hcW hnew hr hS;go_enter Tryz.func222,Tryz.ntmps222
 go_upto_region 1 with fail
 generalize w.alloc (.cells (arrN e) 108)=w1 at *;have hBr:=rgN_fl hBf.rangeQ;generalize hgf:w.heap.size=gf at *;have HK:=zH hk;clear hBf hk;go_cut [19] (fun v wx=>v=.bool false∧w1=wx)
 case first=>
  have hk:=HK.out;have b12:(e.kind !=1&&e.kind !=2)=false:=by rcases hk with hk|hk<;>simp[hk]
  clear hBr;go_wp2_with fail;refine FF.out.mono ?_;rintro e1 w2 ⟨rfl,rfl⟩;go_wp2_with fail
  ·go_meet
   exact⟨rfl,rfl⟩
  ·go_meet
   exact⟨rfl,rfl⟩
 case rest=>
 obtain⟨rfl,rfl⟩:=hcut;clear FF ck;go_wp2_with (first
  |(refine wpList_row 46 (.tmp 22) rfl rfl gf 0 rfl (arrF e.fl) _ hBr Tryz.underlying46 rfl infF ?_)
  |fail)
 refine (F0.out w1 (Chg.refl _ _)).mono ?_;rintro e1 w2 ⟨rfl,hc2⟩;clear F0;generalize ((getC c e.fl).map (·.1)).getD eN0=x at *;have HR:=zH HI.out.2.2.2;generalize hbb:hasC c e.fl=bb at *;have hBl:Blk (w2.alloc (.cells arrN0 108)) w2.heap.size 108 arrN0:=Blk.new _ _ _
 have HC2:=zH (hc2.trans ((Chg.refl [] w2).alloc (.cells arrN0 108)));have HZ2:=zH hc2.size;clear hc2;go_wp2_with (first
  |(refine zs rfl 108 _ _ rfl rfl hBl rfl rfl rfl (infN (e:=x)) rfl ?_;intro w3 hB3 hc3)
  |fail)
 have HC3:Hid (Chg [] w1 w3):=zH (HC2.out.trans' hc3 (by intro y hy;simp at hy;subst hy;exact .inr HZ2.out));clear hBl HC2 hB3 hc3 hBr;go_upto_region 4 with fail
 go_cut [40] (fun v wx=>v=.bool false∧Hid (Chg [] w1 wx))
 case first=>
  have hr:=HR.out;cases bb with
  |true=>
   clear hr;refine wp_region_chg (by kernel_rfl) (by kernel_rfl) ?_
   repeat (first
    |((with_reducible refine wpQuiet_skip ?_ ?_);(focus rfl);(try simp only[zP]))
    |((with_reducible refine wpQuiet_pure (v:=?_) ?_ (fun w=>?_) ?_);rotate_left;(focus rfl);(focus (go_simp<;>with_reducible rfl));(try simp only[zP])))
   refine wpQuiet_nil ?_;intro w4 hc4;have HC4:=zH (HC3.out.trans hc4);clear hc4;go_wp2_with fail;go_meet
   exact⟨rfl,HC4⟩
  |false=>
   have hr2:decide (c.n≤(c.l.length:Int))=false:=by
    rcases hr with hr|hr
    ·cases hr
    ·exact decide_eq_false (by omega)
   have HC30:∀W,Chg [] w3 W→W.cell? ⟨tb,3,none⟩=some (.map (some m1)):=fun W hc=>(HC3.out.trans hc).cell (HT.out.blk.cell 3) (by simp)
   have HC00:∀W,Chg [] w3 W→W.cell? ⟨tb,0,none⟩=some (.int .i64 c.n):=fun W hc=>(HC3.out.trans hc).cell (HT.out.blk.cell 0) (by simp)
   have hl:=fun ty=>(HT.out.oe.chg0 (HC3.out.drew)).len Tryz.underlying194 ty
   have hS0:Chg [] w3 w3.drew:=(Chg.refl [] w3).drew;clear hr;refine wp_region_noPanic ?_;refine wp_region_held_drew (S:=Chg [] w3) (by kernel_rfl) hS0 (fun _=>?_);refine zU 0 rfl (by go_simp<;>with_reducible rfl) ?_
   try simp only[zP]
   refine zU 1 rfl (by go_simp<;>with_reducible rfl) ?_
   try simp only[zP]
   refine zU 2 rfl (by go_simp<;>with_reducible rfl) ?_
   try simp only[zP]
   refine zU 3 rfl (by go_simp<;>with_reducible rfl) ?_
   try simp only[zP]
   refine zU 4 rfl (by go_simp<;>with_reducible rfl) ?_
   try simp only[zP]
   refine zU 5 rfl (by go_simp<;>with_reducible rfl) ?_
   try simp only[zP]
   refine zT 6 rfl (zc (by rfl) 194 (.tmp 32) rfl tb 3 rfl (.map (some m1)) _ HC30 Tryz.underlying194 rfl) ?_
   try simp only[zP]
   refine zU 8 rfl (by go_simp<;>with_reducible rfl) ?_
   try simp only[zP]
   refine zU 9 rfl (by go_simp<;>with_reducible rfl) ?_
   try simp only[zP]
   refine zU 10 rfl (by go_simp<;>with_reducible rfl) ?_
   try simp only[zP]
   refine zT 11 rfl (zc (by rfl) 3 (.tmp 37) rfl tb 0 rfl (.int .i64 c.n) _ HC00 Tryz.underlying3 rfl) ?_
   try simp only[zP]
   refine zR 7 rfl (fun K hK=>?_);go_simp
   refine zB hK ?_;clear hK K
   try simp only[zP]
   refine zU 12 rfl (by go_simp<;>with_reducible rfl) ?_
   try simp only[zP]
   refine zU 13 rfl (by go_simp<;>with_reducible rfl) ?_
   try simp only[zP]
   refine wpAnyH_done (by kernel_rfl) ?_ _;refine NoPanic.normal ?_;have HC4:=zH (HC3.out.drew);clear hS0 HC30 HC00 hl;go_wp2_with fail;go_meet
   exact⟨rfl,HC4⟩
 case rest=>
 obtain⟨rfl,HC4⟩:=hcut;have hB4:=HI.out.2.1.chg HC4.out (by simp);have hBr:=rgN_fl hB4.rangeQ;have FD:=zH (cdrop_any (HI.out.2.2.1.chg0 HC4.out) (by omega) he);have HB4:=zH hB4;clear hB4 HC3 HZ2;go_wp2_with (first
  |(refine wpList_row 46 (.tmp 42) rfl rfl gf 0 rfl (arrF e.fl) _ hBr Tryz.underlying46 rfl infF ?_)
  |fail)
 refine FD.out.mono ?_;rintro e1 w5 ⟨rfl,S5,h5,hc5,hf5⟩;have hgl:=HB4.out.lt;have HB5:=zH (HB4.out.chg hc5 HGS.out);have HGS5:Hid (gf∉S5):=zH (fun hx=>(hf5 gf hx).elim HGS.out (fun k=>by omega));have HC5:=zH (And.intro hc5 hf5)
 obtain⟨⟨n1,n2,n3,q5,nn5,vs5,sq5,its5,hcr,hS5,hnn,hs0,hs1,hpm⟩,hci,hcW,hnew⟩:=h5;have HR5:=zH hcr;have HN5:=zH (And.intro hS5 (And.intro hnn (And.intro hs0 (And.intro hs1 (And.intro hpm (And.intro hci (And.intro hcW hnew)))))))
 have hwr:wrap64 (c.last+1)=c.last+1:=(by have:=hci.la;simp only[dropC]at this;unfold wrap64;omega);have c2:w5.cell? ⟨tb,2,none⟩=some (.int .i64 c.last):=hcr.blk.cell 2;have f2:w5.frozen? ⟨tb,2,none⟩=false:=hcr.blk.frozen 2;clear hBr FD hc5 hf5 hcr hS5 hnn hs0 hs1 hpm hci hcW hnew HR
 go_upto_region 8 with fail
 obtain⟨hS5,hnn,hs0,hs1,hpm,hci,hcW,hnew⟩:=HN5.out;have h6:CtR (w5.setCell ⟨tb,2,none⟩ (.int .i64 (c.last+1))) tb n1 n2 n3 q5 nn5 vs5 sq5 its5 ⟨c.n,c.now,c.last+1,dropL c.l e.fl⟩:=HR5.out.next
 have hc6:Chg [tb] w5 (w5.setCell ⟨tb,2,none⟩ (.int .i64 (c.last+1))):=(Chg.refl [tb] w5).setCell (.inl (by simp)) _;have hgtb:gf≠tb:=fun e=>HGS5.out (by rw[e,hS5];simp[footT])
 have hg1:gf≠n1:=fun e=>HGS5.out (by rw[e,hS5];simp[footT])
 have hg2:gf≠n2:=fun e=>HGS5.out (by rw[e,hS5];simp[footT])
 have hg3:gf≠n3:=fun e=>HGS5.out (by rw[e,hS5];simp[footT])
 have hgq:gf∉footQ q5 vs5:=fun e=>HGS5.out (by rw[hS5];simp[footT];exact .inr (.inr (.inr (.inr e))))
 have HB6:=zH (HB5.out.chg hc6 (by simpa using hgtb));have HR6:=zH (And.intro h6 hc6);have hS0:Chg [n1,n2,n3] (w5.setCell ⟨tb,2,none⟩ (.int .i64 (c.last+1))) (w5.setCell ⟨tb,2,none⟩ (.int .i64 (c.last+1))).drew:=(Chg.refl [n1,n2,n3] _).drew;clear h6 hc6 c2 f2
 generalize w5.setCell ⟨tb,2,none⟩ (.int .i64 (c.last+1))=w6 at *;obtain⟨d1,d2,d3,d4,d5,d6⟩:=HR6.out.1.d1;have hkz:(Lit.int .i64 (c.last+1)).wf=true:=wf_c (by have:=hci.la;simp only[dropC]at this;omega) (by have:=hci.la;simp only[dropC]at this;omega)
 have HC:∀(i:Nat) (v:Value),w6.cell? ⟨tb,i,none⟩=some v→∀W,Chg [n1,n2,n3] w6 W→W.cell? ⟨tb,i,none⟩=some v:=fun i v hv W hc=>hc.cell hv (by simp;exact⟨d1,d2,d3⟩)
 have HC3:=HC 3 _ (HR6.out.1.blk.cell 3);have HC4':=HC 4 _ (HR6.out.1.blk.cell 4);have HC5':=HC 5 _ (HR6.out.1.blk.cell 5);have HC2:=HC 2 _ (HR6.out.1.blk.cell 2);have HRN:∀W,Chg [n1,n2,n3] w6 W→W.rangeAt gf 0 (arrN e).toList:=fun W hc=>(HB6.out.chg hc (by simp;exact⟨hg1,hg2,hg3⟩)).rangeQ
 have HRF:∀W,Chg [n1,n2,n3] w6 W→W.rangeAt gf 0 (arrF e.fl).toList:=fun W hc=>rgN_fl (HRN W hc)
 have hnm:nn5<maxLen:=by unfold maxLen;omega
 obtain⟨v1,st1,wa1,w7,ea1,eb1,o1,hc7,hca1⟩:=(HR6.out.1.oe.chg0 (Chg.refl _ _).drew).entry Tryz.underlying194 hnm zeroEn (x:=e.fl) he (.agg (arrN e));obtain⟨s2,h2⟩:=HR6.out.1.on
 obtain⟨v2,st2,wa2,w8,ea2,eb2,o2,hc8,hca2⟩:=((h2.chg0 (Chg.refl _ _).drew).chg hc7 (by simpa using Ne.symm d4)).entry Tryz.underlying195 hnm (z:=.int .i64 0) (fun u=>by kernel_rfl) (x:=e.fl) he (.int .i64 (c.last+1));obtain⟨s3,h3⟩:=HR6.out.1.of
 obtain⟨v3,st3,wa3,w9,ea3,eb3,o3,hc9,hca3⟩:=(((h3.chg0 (Chg.refl _ _).drew).chg hc7 (by simpa using Ne.symm d5)).chg hc8 (by simpa using Ne.symm d6)).entry Tryz.underlying196 hnm zeroFl (x:=c.last+1) hkz e.fl.v;have k1:Chg [n1,n2,n3] w6 wa1:=hS0.trans (hca1.more (by simp))
 have k2:Chg [n1,n2,n3] w6 w7:=hS0.trans (hc7.more (by simp));have k3:Chg [n1,n2,n3] w6 wa2:=k2.trans (hca2.more (by simp));have k4:Chg [n1,n2,n3] w6 w8:=k2.trans (hc8.more (by simp));have k5:Chg [n1,n2,n3] w6 wa3:=k4.trans (hca3.more (by simp))
 have k6:Chg [n1,n2,n3] w6 w9:=k4.trans (hc9.more (by simp));have HO1:=zH (And.intro o1 (show Chg [n1] w6 w7 from ((Chg.refl [n1] w6).drew).trans hc7));have HO2:=zH (And.intro o2 hc8);have HO3:=zH (And.intro o3 hc9)
 have HHZ:=zH (And.intro hS5 (And.intro hnn (And.intro hs0 (And.intro hs1 (And.intro hpm (And.intro hci (And.intro hcW hnew)))))));clear HN5 o1 o2 o3 hc7 hc8 hc9 hca1 hca2 hca3 h2 h3 hS5 hnn hs0 hs1 hpm hci hcW hnew HC HR5;refine wp_region_noPanic ?_
 refine wp_region_held_drew (S:=Chg [n1,n2,n3] w6) (by kernel_rfl) hS0 (fun _=>?_);refine zU 0 rfl (by go_simp<;>with_reducible rfl) ?_
 try simp only[zP]
 refine zU 1 rfl (by go_simp<;>with_reducible rfl) ?_
 try simp only[zP]
 refine zU 2 rfl (by go_simp<;>with_reducible rfl) ?_
 try simp only[zP]
 refine zT 3 rfl (zc (by rfl) 194 (.tmp 54) rfl tb 3 rfl (.map (some n1)) _ HC3 Tryz.underlying194 rfl) ?_
 try simp only[zP]
 refine zU 4 rfl (by go_simp<;>with_reducible rfl) ?_
 try simp only[zP]
 refine zT 5 rfl (yields_row (by rfl) 46 (.tmp 56) rfl gf 0 rfl (arrF e.fl) _ HRF Tryz.underlying46 rfl infF) ?_
 try simp only[zP]
 refine zU 6 rfl (by go_simp<;>with_reducible rfl) ?_
 try simp only[zP]
 refine zU 7 rfl (by go_simp<;>with_reducible rfl) ?_
 try simp only[zP]
 refine zU 8 rfl (by go_simp<;>with_reducible rfl) ?_
 try simp only[zP]
 refine zT 9 rfl (zc (by rfl) 195 (.tmp 60) rfl tb 4 rfl (.map (some n2)) _ HC4' Tryz.underlying195 rfl) ?_
 try simp only[zP]
 refine zU 10 rfl (by go_simp<;>with_reducible rfl) ?_
 try simp only[zP]
 refine zT 11 rfl (yields_row (by rfl) 46 (.tmp 62) rfl gf 0 rfl (arrF e.fl) _ HRF Tryz.underlying46 rfl infF) ?_
 try simp only[zP]
 refine zU 12 rfl (by go_simp<;>with_reducible rfl) ?_
 try simp only[zP]
 refine zU 13 rfl (by go_simp<;>with_reducible rfl) ?_
 try simp only[zP]
 refine zU 14 rfl (by go_simp<;>with_reducible rfl) ?_
 try simp only[zP]
 refine zT 15 rfl (zc (by rfl) 196 (.tmp 66) rfl tb 5 rfl (.map (some n3)) _ HC5' Tryz.underlying196 rfl) ?_
 try simp only[zP]
 refine zU 16 rfl (by go_simp<;>with_reducible rfl) ?_
 try simp only[zP]
 refine zU 17 rfl (by go_simp<;>with_reducible rfl) ?_
 try simp only[zP]
 refine zU 18 rfl (by go_simp<;>with_reducible rfl) ?_
 try simp only[zP]
 refine zT 19 rfl (zc (by rfl) 3 (.tmp 70) rfl tb 2 rfl (.int .i64 (c.last+1)) _ HC2 Tryz.underlying3 rfl) ?_
 try simp only[zP]
 refine zT 20 rfl (yields_row (by rfl) 108 (.tmp 3) rfl gf 0 rfl (arrN e) _ HRN Tryz.underlying108 rfl infN) ?_
 try simp only[zP]
 refine zU 21 rfl (by go_simp<;>with_reducible rfl) ?_
 try simp only[zP]
 refine zU 22 rfl (by go_simp<;>with_reducible rfl) ?_
 try simp only[zP]
 refine zU 23 rfl (by go_simp<;>with_reducible rfl) ?_
 try simp only[zP]
 refine zT 24 rfl (zc (by rfl) 3 (.tmp 75) rfl tb 2 rfl (.int .i64 (c.last+1)) _ HC2 Tryz.underlying3 rfl) ?_
 try simp only[zP]
 refine zU 25 rfl (by go_simp<;>with_reducible rfl) ?_
 try simp only[zP]
 refine zT 26 rfl (yields_row (by rfl) 46 (.tmp 77) rfl gf 0 rfl (arrF e.fl) _ HRF Tryz.underlying46 rfl infF) ?_
 try simp only[zP]
 refine zR 27 rfl (fun K hK=>?_);refine step_mapEntry rfl 194 (.tmp 55) (.tmp 57) rfl rfl rfl ea1 ?_;refine zB hK ?_;clear hK K
 try simp only[zP]
 refine zU 28 rfl (by go_simp<;>with_reducible rfl) ?_
 try simp only[zP]
 refine zR 29 rfl (fun K hK=>?_);refine step_entryStore rfl 194 (.tmp 55) (.tmp 80) (.tmp 72) rfl rfl rfl rfl rfl eb1 ?_;refine zB hK ?_;clear hK K
 try simp only[zP]
 refine zR 30 rfl (fun K hK=>?_);refine step_mapEntry rfl 195 (.tmp 61) (.tmp 63) rfl rfl rfl ea2 ?_;refine zB hK ?_;clear hK K
 try simp only[zP]
 refine zU 31 rfl (by go_simp<;>with_reducible rfl) ?_
 try simp only[zP]
 refine zR 32 rfl (fun K hK=>?_);refine step_entryStore rfl 195 (.tmp 61) (.tmp 82) (.tmp 76) rfl rfl rfl rfl rfl eb2 ?_;refine zB hK ?_;clear hK K
 try simp only[zP]
 refine zR 33 rfl (fun K hK=>?_);refine step_mapEntry rfl 196 (.tmp 67) (.tmp 71) rfl rfl rfl ea3 ?_;refine zB hK ?_;clear hK K
 try simp only[zP]
 refine zU 34 rfl (by go_simp<;>with_reducible rfl) ?_
 try simp only[zP]
 refine zR 35 rfl (fun K hK=>?_);refine step_entryStore rfl 196 (.tmp 67) (.tmp 84) (.tmp 78) rfl rfl rfl rfl rfl eb3 ?_;refine zB hK ?_;clear hK K
 try simp only[zP]
 refine wpAnyH_done (by kernel_rfl) ?_ _;refine NoPanic.normal ?_;have HK6:=zH k6;clear k1 k2 k3 k4 k5 k6 ea1 ea2 ea3 eb1 eb2 eb3 HC3 HC4' HC5' HC2 HRN HRF hS0;go_upto_region 9 with fail
 obtain⟨f1,f2,f3,f4⟩:=HR6.out.1.d2;have hq9:QU w9 q5 vs5 sq5 its5:=HR6.out.1.qu.chg HK6.out (by
  intro x hx e;simp at e;rcases e with rfl|rfl|rfl
  ·exact f2 hx
  ·exact f3 hx
  ·exact f4 hx)
 have hb9:=HR6.out.1.blk.chg HK6.out (by simp;exact⟨d1,d2,d3⟩);have HB9:=HB6.out.chg HK6.out (by simp;exact⟨hg1,hg2,hg3⟩);have hS0:Chg (footQ q5 vs5) w9 w9.drew:=(Chg.refl _ _).drew
 have HC6:∀W,Chg (footQ q5 vs5) w9 W→W.cell? ⟨tb,6,none⟩=some (.pointer (some ⟨q5,0,none⟩)):=fun W hc=>hc.cell (hb9.cell 6) f1
 have HC2:∀W,Chg (footQ q5 vs5) w9 W→W.cell? ⟨tb,2,none⟩=some (.int .i64 (c.last+1)):=fun W hc=>hc.cell (hb9.cell 2) f1
 have HCG:∀W,Chg (footQ q5 vs5) w9 W→W.cell? ⟨gf,38,none⟩=some (.int .i64 e.til):=fun W hc=>hc.cell (HB9.cell 38) hgq
 have hl5:its5.length≤2900:=by
  obtain⟨hS5,hnn,hs0,hs1,hpm,hci,hcW,hnew⟩:=HHZ.out;have h2:=hpm.length_eq;have:=hci.len;have:=hci.n1
  simp at h2;simp only[dropC]at *;omega
 have FA:=zH (qadd_any (hq9.chg0 (Chg.refl _ _).drew) hl5 HHZ.out.2.2.1 (by have:=HHZ.out.2.2.2.1;omega) e.til (c.last+1));clear hq9 hb9 HB9 hl5;refine wp_region_noPanic ?_;refine wp_region_held_drew (S:=Chg (footQ q5 vs5) w9) (by kernel_rfl) hS0 (fun _=>?_)
 refine zU 0 rfl (by go_simp<;>with_reducible rfl) ?_
 try simp only[zP]
 refine zU 1 rfl (by go_simp<;>with_reducible rfl) ?_
 try simp only[zP]
 refine zU 2 rfl (by go_simp<;>with_reducible rfl) ?_
 try simp only[zP]
 refine zT 3 rfl (zc (by rfl) 197 (.tmp 87) rfl tb 6 rfl (.pointer (some ⟨q5,0,none⟩)) _ HC6 Tryz.underlying197 rfl) ?_
 try simp only[zP]
 refine zU 4 rfl (by go_simp<;>with_reducible rfl) ?_
 try simp only[zP]
 refine zT 5 rfl (zc (by rfl) 3 (.tmp 89) rfl gf 38 rfl (.int .i64 e.til) _ HCG Tryz.underlying3 rfl) ?_
 try simp only[zP]
 refine zU 6 rfl (by go_simp<;>with_reducible rfl) ?_
 try simp only[zP]
 refine zU 7 rfl (by go_simp<;>with_reducible rfl) ?_
 try simp only[zP]
 refine zU 8 rfl (by go_simp<;>with_reducible rfl) ?_
 try simp only[zP]
 refine zT 9 rfl (zc (by rfl) 3 (.tmp 93) rfl tb 2 rfl (.int .i64 (c.last+1)) _ HC2 Tryz.underlying3 rfl) ?_
 try simp only[zP]
 refine zR 10 rfl (fun K hK=>?_);go_simp
 refine FA.out.mono ?_;rintro e1 w10 ⟨rfl,hT⟩;have hcT:Chg (footQ q5 vs5) w9 w10:=by obtain⟨_,_,_,_,_,h4,_⟩:=hT;exact (Chg.refl _ _).drew.trans h4
 refine zB hK ?_;clear hK K
 try simp only[zP]
 refine wpAnyH_done (by kernel_rfl) ?_ _;refine NoPanic.normal ?_;clear hS0 HC6 HC2 HCG hcT;have HT10:=zH hT;clear hT;go_wp2_with fail;go_ret
 refine⟨rfl,?_⟩;obtain⟨hS5,hnn,hs0,hs1,hpm,hci,hcW,hnew⟩:=HHZ.out;have hci0:=HI.out.2.2.1.ci;obtain⟨vs',its',hr10,hpm10,hc10,hf10⟩:=HR6.out.1.pu_fin HO1.out.1 (by rw[mE_drop];simp) HO1.out.2 HO2.out.1 HO2.out.2 HO3.out.1 HO3.out.2 (Chg.refl _ _).drew (mE_put _) (mN_put _) (mF_put hci0) hpm HT10.out
 have hz1:=HC4.out.size;have hz5:=HC5.out.1.size;have hz6:=HR6.out.2.size;have hzW:=hcW.size;have hc610:Chg S5 w5 w10:=(HR6.out.2.more (by rw[hS5];simp[footT])).trans (hc10.more (by rw[hS5];exact fun x hx=>hx));have hfoot:∀x∈footT tb n1 n2 n3 q5 vs',x∈S5∨w5.heap.size≤x:=by
  intro x hx;rw[hS5];simp only[footT,List.mem_cons]at hx ⊢;rcases hx with h|h|h|h|h
  ·exact .inl (.inl h)
  ·exact .inl (.inr (.inl h))
  ·exact .inl (.inr (.inr (.inl h)))
  ·exact .inl (.inr (.inr (.inr (.inl h))))
  ·exact (hf10 x h).imp (fun k=>.inr (.inr (.inr (.inr k)))) (fun k=>by omega)
 refine⟨_,⟨⟨n1,n2,n3,q5,nn5+1,vs',sq5+1,its',hr10,rfl,by omega,by omega,by omega,hpm10⟩,hci0.put he (by rw[hbb];exact HI.out.2.2.2),hcW.trans' hc610 (fun x hx=>.inr (hnew x hx)),fun x hx=>(hfoot x hx).elim (hnew x) (fun k=>by omega)⟩,?_,?_⟩
 ·have k1:Chg S w w5:=((HI.out.1.trans HC4.out).more (by simp)).trans HC5.out.1;exact k1.trans' hc610 (fun x hx=>(HC5.out.2 x hx).imp id (fun k=>by omega))
 ·intro x hx;rcases hfoot x hx with k|k
  ·exact (HC5.out.2 x k).imp id (fun k=>by omega)
  ·exact .inr (by omega)
end
end Go.Proofs.YtgbndaiifbogmaaGreat
namespace Go.Proofs.YtgbndaiifbogmaaGreat
open Go.RowKit Go.Maps
theorem step_copy_blk {P:Program} {w:World} {ops:Array Oper} {o:Oper} {a:Act} {K:Act→World→Prop} {Q:Exit→Act→World→Prop} {E:Prop} (hgd:o.guard=none) (d s:Operand) (dT sT:TypeId) (ho:o.op=.call {callee:=.builtin .copy,args:=#[d,s],argTypes:=#[dT,sT]}) (elem:TypeId) (hu:P.underlying dT=some (.slice elem)) (hsz:(P.info? elem).map (·.size)=some 1)
  {g:Nat} {t:TypeId} {cur:Array Value} (hb:Blk w g t cur) {off dLen dCap:Nat} (hd:a.eval d=.slice (some ⟨g,off,none⟩) dLen dCap)
  {B m:Nat} {sv:Value} {cs:List Value} (hs:a.eval s=sv) (hr:Sl w B 1 sv m cs) (hn:m≤dLen) (h0:0<m) (h1:∀u∈cs,u.oneCell'=true) (hfit:off+m≤cur.size)
  (h:∀w',Blk w' g t (splice cur.toList off cs).toArray→Chg [g] w w'→K (a.put o.dst (.int .i64 m)) w'):if Region.wanted o (yielded ops a.tmps)=true then Oper.wp P o a w K Q else E:=by
 obtain⟨hl,A,c,rfl,hcap,hx⟩:=hr;rw[Nat.mul_one]at hl;obtain⟨b,o',rfl,_,hc⟩:=hx h0;rw[if_pos (by simp[Region.wanted,hgd])];have hrun:=run_copy_row (P:=P) w dT sT o.type elem g off dLen dCap ⟨b,o',none⟩ m c cur t cs hu hsz hb (by rw[hl];exact (Nat.min_eq_left hn).symm) (fun j v hj=>by
  have:=hc j v hj;unfold Addr.add;split
  ·next hj=>simpa[hj]using this
  ·exact this) (by rw[hl];exact hfit) h1
 unfold Oper.wp execOp;simp only[ho,resolve,invoke,builtin,Sem.run_bind,Sem.run_pure,Result.andThen_ok,List.map_toArray,List.map_cons,List.map_nil,hd,hs,hrun];rw[hl];refine h _ ?_ ⟨rfl,rfl,rfl,by simp[World.setRow],fun k hk hne=>setRow_other w g k _ (by simpa using hne)⟩;unfold splice;rw[hl]
 exact (setRow_heap w g cur _ t _ hb).trans (by simp)
theorem bytes_ad {l:By} {i:Nat} (h:i+16≤l.length):((l.drop i).take 16).map byV=encA (adAt l i):=by
 apply List.ext_getElem?;intro j;by_cases hj:j<16
 ·rw[List.getElem?_map,List.getElem?_take,if_pos hj,List.getElem?_drop,gB_some (by omega)];have:j=0∨j=1∨j=2∨j=3∨j=4∨j=5∨j=6∨j=7∨j=8∨j=9∨j=10∨j=11∨j=12∨j=13∨j=14∨j=15:=by omega
  rcases this with rfl|rfl|rfl|rfl|rfl|rfl|rfl|rfl|rfl|rfl|rfl|rfl|rfl|rfl|rfl|rfl<;>rfl
 ·rw[List.getElem?_eq_none (by simp;omega),List.getElem?_eq_none (by rw[encA_len];omega)]
@[reducible] def arrH (h:Hd):Array Value:=#[.int .i64 h.cls,.int .i64 h.lab,.int .i64 h.len,.int .i64 h.nxt,.int .i64 h.hop,.int .u8 h.src.a0,.int .u8 h.src.a1,.int .u8 h.src.a2,.int .u8 h.src.a3,.int .u8 h.src.a4,.int .u8 h.src.a5,.int .u8 h.src.a6,.int .u8 h.src.a7,.int .u8 h.src.a8,.int .u8 h.src.a9,.int .u8 h.src.a10,.int .u8 h.src.a11,.int .u8 h.src.a12,.int .u8 h.src.a13,.int .u8 h.src.a14,.int .u8 h.src.a15,.int .u8 h.dst.a0,.int .u8 h.dst.a1,.int .u8 h.dst.a2,.int .u8 h.dst.a3,.int .u8 h.dst.a4,.int .u8 h.dst.a5,.int .u8 h.dst.a6,.int .u8 h.dst.a7,.int .u8 h.dst.a8,.int .u8 h.dst.a9,.int .u8 h.dst.a10,.int .u8 h.dst.a11,.int .u8 h.dst.a12,.int .u8 h.dst.a13,.int .u8 h.dst.a14,.int .u8 h.dst.a15]
@[reducible] def arrH0:Array Value:=#[.int .i64 0,.int .i64 0,.int .i64 0,.int .i64 0,.int .i64 0,.int .u8 0,.int .u8 0,.int .u8 0,.int .u8 0,.int .u8 0,.int .u8 0,.int .u8 0,.int .u8 0,.int .u8 0,.int .u8 0,.int .u8 0,.int .u8 0,.int .u8 0,.int .u8 0,.int .u8 0,.int .u8 0,.int .u8 0,.int .u8 0,.int .u8 0,.int .u8 0,.int .u8 0,.int .u8 0,.int .u8 0,.int .u8 0,.int .u8 0,.int .u8 0,.int .u8 0,.int .u8 0,.int .u8 0,.int .u8 0,.int .u8 0,.int .u8 0]
theorem infH {h:Hd}:(Tryz.prog.info? 26).map (·.size)=some (arrH h).size:=by
 show _=some 37;kernel_rfl
theorem infH0:(Tryz.prog.info? 26).map (·.size)=some arrH0.size:=by
 show _=some 37;kernel_rfl
theorem arrH_one (h:Hd):(arrH h).toList.all (·.oneCell')=true:=rfl
theorem and_u32 {x k:Nat} (hx:x<4294967296) (hk:k≤32):bits .and .u32 (x:Int) ((2 ^ k-1:Nat):Int)=((x%2 ^ k:Nat):Int):=by
 have hp:2 ^ k≤2 ^ 32:=Nat.pow_le_pow_right (by omega) hk;have h1:(BitVec.ofInt 32 (x:Int)).toNat=x:=by
  rw[BitVec.ofInt_natCast,BitVec.toNat_ofNat];exact Nat.mod_eq_of_lt (by omega)
 have h2:(BitVec.ofInt 32 ((2 ^ k-1:Nat):Int)).toNat=2 ^ k-1:=by
  rw[BitVec.ofInt_natCast,BitVec.toNat_ofNat];exact Nat.mod_eq_of_lt (by omega)
 show IntKind.u32.wrap ((BitVec.ofInt 32 (x:Int) &&& BitVec.ofInt 32 ((2 ^ k-1:Nat):Int)).toNat:Int)=_;rw[BitVec.toNat_and,h1,h2,Nat.and_two_pow_sub_one_eq_mod,IntKind.wrap_u32'];have:=Nat.mod_le x (2 ^ k);omega
def getV (b:By):Value:=match getH b with
 |.error e=>.tuple #[.agg arrH0,.int .i64 e]
 |.ok h=>.tuple #[.agg (arrH h),.int .i64 0]
theorem sget_big {w:World} {B:Nat} {v:Value} {l:By} (h:SlY w B v l) (hb:okB l) (hl:l.length≤9223372036854775807) :
  Calls Tryz.prog 92 #[v] w fun e w'=>e=.returned (getV l)∧Chg [] w w':=by
 obtain⟨A,c,rfl⟩:=h.form;have hA:=(Chg.refl [] w).alloc (.cells arrH0 26);have hB0:Blk (w.alloc (.cells arrH0 26)) w.heap.size 26 arrH0:=Blk.new _ _ _;have hlen:Hid (l.length=l.length):=zH rfl;by_cases h40:l.length<40
 ·have hR:Hid (getV l=.tuple #[.agg arrH0,.int .i64 3]):=zH (by unfold getV getH;rw[if_pos h40]);have hI:(l.length:Int)<40:=by omega
  have HA:=zH hA;generalize l.length=n at *;clear h hb hl h40 hA;go_enter Tryz.func92,Tryz.ntmps92
  go_wp2_with (first
   |(refine zs (vs:=arrH0) rfl 26 (.tmp 2) (.tmp 10) rfl rfl hB0 rfl rfl rfl infH0 rfl ?_;intro w9 hB9 hc9)
   |fail)
  refine bodyPost_ret (zr rfl rfl hB9 _ Tryz.underlying26 rfl infH0) rfl ?_;exact⟨by rw[hR.out];rfl,HA.out.trans' hc9 (zN (by omega))⟩
 ·have FU:=zH (fun (W:World) (hc:Chg [] w W)=>(show Calls Tryz.prog 104 #[.slice A l.length c,.int .i64 0] W _ from u32_big (h.chg0 hc) hb hl (at_:=0) (by omega)))
  have FV:=zH (fun (W:World) (hc:Chg [] w W)=>(show Calls Tryz.prog 103 #[.slice A l.length c,.int .i64 4] W _ from u16_big (h.chg0 hc) hb hl (at_:=4) (by omega)));have g0:=gB_lt hb 0;have g1:=gB_lt hb 1;have g2:=gB_lt hb 2;have g3:=gB_lt hb 3;have g6:=gB_lt hb 6;have g7:=gB_lt hb 7
  have hx:w4 l 0=gB l 0*16777216+gB l 1*65536+gB l 2*256+gB l 3:=by simp only[w4,w2,Nat.zero_add,Nat.reduceAdd];omega
  have q28:((w4 l 0:Nat):Int)/268435456=((gB l 0/16:Nat):Int):=by omega
  have hI:¬(l.length:Int)<40:=by omega
  have HA:=zH hA;by_cases h6:gB l 0/16=6
  ·have hR:Hid (getV l=.tuple #[.agg (arrH (headOf l)),.int .i64 0]):=zH (by unfold getV getH;rw[if_neg h40,if_neg (by simpa using h6)]);obtain⟨y1,hy1⟩:∃y:Nat,y=gB l 0%16*16+gB l 1/16:=⟨_,rfl⟩;obtain⟨y2,hy2⟩:∃y:Nat,y=gB l 1%16*65536+gB l 2*256+gB l 3:=⟨_,rfl⟩
   have HH:Hid (headOf l=⟨(y1:Nat),(y2:Nat),(w2 l 4:Nat),(gB l 6:Nat),(gB l 7:Nat),adAt l 8,adAt l 24⟩):=zH (by rw[hy1,hy2];rfl);have q20:bits .and .u32 (((w4 l 0:Nat):Int)/1048576) 255=(y1:Nat):=by
    have e:((w4 l 0:Nat):Int)/1048576=((w4 l 0/1048576:Nat):Int):=by omega
    rw[e];have:=and_u32 (x:=w4 l 0/1048576) (k:=8) (by have:=w4_lt hb 0;omega) (by omega);refine this.trans ?_;congr 1;omega
   have q0:bits .and .u32 ((w4 l 0:Nat):Int) 1048575=(y2:Nat):=by
    refine (and_u32 (x:=w4 l 0) (k:=20) (w4_lt hb 0) (by omega)).trans ?_;congr 1;omega
   obtain⟨X8,hX8,hs8⟩:=cutY2 h (lo:=8) (hi:=24) (by omega) (by omega);obtain⟨X24,hX24,hs24⟩:=cutY2 h (lo:=24) (hi:=40) (by omega) (by omega);have e8:=bytes_ad (l:=l) (i:=8) (by omega);have e24:=bytes_ad (l:=l) (i:=24) (by omega);have hs8':Sl w B 1 (.slice X8 16 (c-8)) 16 (encA (adAt l 8)):=by
    have:=hs8;unfold SlY at this;rw[show ((l.drop 8).take (24-8)).length=16 by simp;omega,e8]at this;exact this
   have hs24':Sl w B 1 (.slice X24 16 (c-24)) 16 (encA (adAt l 24)):=by
    have:=hs24;unfold SlY at this;rw[show ((l.drop 24).take (40-24)).length=16 by simp;omega,e24]at this;exact this
   have hX8':∀W:World,(Instr.slice 22 (.slice A l.length c) (some (.int .i64 8)) (some (.int .i64 24)) none).run Tryz.prog W=.ok (.slice X8 16 (c-8)) W:=hX8
   have hX24':∀W:World,(Instr.slice 22 (.slice A l.length c) (some (.int .i64 24)) (some (.int .i64 40)) none).run Tryz.prog W=.ok (.slice X24 16 (c-24)) W:=hX24;obtain⟨b,o,c',e,_,_,hcell⟩:=h.all (by omega);simp only[Value.slice.injEq,true_and]at e;obtain⟨rfl,rfl⟩:=e
   have H6:Hid (∀W,Chg [] w W→W.cell? ⟨b,o+6,none⟩=some (.int .u8 (gB l 6:Nat))):=zH fun W hc=>hc.cell (hcell 6 (by omega)) (by simp)
   have H7:Hid (∀W,Chg [] w W→W.cell? ⟨b,o+7,none⟩=some (.int .u8 (gB l 7:Nat))):=zH fun W hc=>hc.cell (hcell 7 (by omega)) (by simp)
   have HS8:=zH hs8';have HS24:=zH hs24';have HX:=zH (And.intro hX8' hX24');have HQ:=zH (And.intro q28 (And.intro q20 q0));have k1:y1<256:=by omega
   have k2:y2<1048576:=by omega
   have k3:=w2_lt hb 4;rw[h6]at HQ;generalize w4 l 0=x at *;generalize gB l 6=y6 at *;generalize gB l 7=y7 at *;generalize w2 l 4=y3 at *;generalize l.length=n at *;generalize adAt l 8=a1 at *;generalize adAt l 24=a2 at *
   clear hy1 hy2 h hb hl h40 hA hs8 hs24 e8 e24 hs8' hs24' hX8 hX24 hX8' hX24' hcell g0 g1 g2 g3 hx q28 q20 q0 h6 hlen;go_enter Tryz.func92,Tryz.ntmps92
   go_wp2_with fail;refine (FU.out _ HA.out).mono ?_;rintro e w1 ⟨rfl,hc1⟩;have HC1:=HA.out.trans hc1;obtain⟨q28,q20,q0⟩:=HQ.out;go_upto_region 6 with fail
   have wy1:IntKind.i64.wrap (y1:Int)=(y1:Int):=by rw[IntKind.wrap_i64];omega
   have wy2:IntKind.i64.wrap (y2:Int)=(y2:Int):=by rw[IntKind.wrap_i64];omega
   have wy6:IntKind.i64.wrap (y6:Int)=(y6:Int):=by rw[IntKind.wrap_i64];omega
   have wy7:IntKind.i64.wrap (y7:Int)=(y7:Int):=by rw[IntKind.wrap_i64];omega
   have i6:(6:Int)<(n:Int):=by omega
   have i7:(7:Int)<(n:Int):=by omega
   have hS6:∀W:World,Chg [] w1 W→W.cell? ⟨b,o+6,none⟩=some (.int .u8 (y6:Nat)):=fun W hc=>H6.out W (HC1.trans hc)
   have hS7:∀W:World,Chg [] w1 W→W.cell? ⟨b,o+7,none⟩=some (.int .u8 (y7:Nat)):=fun W hc=>H7.out W (HC1.trans hc)
   have hS0:Chg [] w1 w1.drew:=(Chg.refl [] w1).drew;refine wp_region_held_drew (S:=Chg [] w1) (by kernel_rfl) hS0 (fun _=>?_);refine zU 0 rfl (by go_simp<;>with_reducible rfl) ?_
   try simp only[zP]
   refine zU 1 rfl (by go_simp<;>with_reducible rfl) ?_
   try simp only[zP]
   refine zU 2 rfl (by go_simp<;>with_reducible rfl) ?_
   try simp only[zP]
   refine zU 3 rfl (by go_simp<;>with_reducible rfl) ?_
   try simp only[zP]
   refine zU 4 rfl (by go_simp<;>with_reducible rfl) ?_
   try simp only[zP]
   refine zU 5 rfl (by go_simp<;>with_reducible rfl) ?_
   try simp only[zP]
   refine zU 6 rfl (by go_simp<;>with_reducible rfl) ?_
   try simp only[zP]
   refine zU 7 rfl (by go_simp<;>with_reducible rfl) ?_
   try simp only[zP]
   refine zU 8 rfl (by go_simp<;>with_reducible rfl) ?_
   try simp only[zP]
   refine zT 9 rfl (zc (by rfl) 5 (.tmp 28) rfl b (o+6) rfl (.int .u8 (y6:Nat)) _ hS6 Tryz.underlying5 rfl) ?_
   try simp only[zP]
   refine zU 10 rfl (by go_simp<;>with_reducible rfl) ?_
   try simp only[zP]
   refine zU 11 rfl (by go_simp<;>with_reducible rfl) ?_
   try simp only[zP]
   refine zU 12 rfl (by go_simp<;>with_reducible rfl) ?_
   try simp only[zP]
   refine zT 13 rfl (zc (by rfl) 5 (.tmp 32) rfl b (o+7) rfl (.int .u8 (y7:Nat)) _ hS7 Tryz.underlying5 rfl) ?_
   try simp only[zP]
   refine zU 14 rfl (by go_simp<;>with_reducible rfl) ?_
   try simp only[zP]
   refine zU 15 rfl (by go_simp<;>with_reducible rfl) ?_
   try simp only[zP]
   refine zR 16 rfl (fun K hK=>?_);refine step_run (v:=.pointer (some ⟨w1.heap.size,0,none⟩)) (w':=w1.drew.alloc (.cells arrH0 26)) rfl (by go_simp<;>rfl) ?_;have hS4:Chg [] w1 (w1.drew.alloc (.cells arrH0 26)):=hS0.alloc _
   have hB4:Blk (w1.drew.alloc (.cells arrH0 26)) w1.heap.size 26 arrH0:=Blk.new' rfl;refine zB hK ?_;clear hK K
   try simp only[zP]
   refine zR 17 rfl (fun K hK=>?_);refine step_store_blk (vs:=arrH ⟨y1,y2,0,y6,y7,ad0,ad0⟩) rfl 26 (.tmp 6) (.tmp 35) rfl hB4 rfl rfl rfl infH (arrH_one _) ?_;intro w6 hB6 hc6;have hS6':Chg [] w1 w6:=hS4.trans' hc6 (zN (by omega));have hlt6:w1.heap.size<w6.heap.size:=hB6.lt;refine zB hK ?_
   clear hK K
   try simp only[zP]
   refine wpAnyH_done (by kernel_rfl) ?_ _;have HC6:=HC1.trans hS6';have hne:w.heap.size<w1.heap.size:=by have:=hB0.lt;have:=hc1.size;omega
   clear hS6 hS7 hS0 hS4 hB4 hc6;generalize w1.heap.size=g6 at *;go_wp2_with fail;refine (FV.out _ HC6).mono ?_;rintro e w7 ⟨rfl,hc7⟩;have hB7:=hB6.chg hc7 (by simp);have HC7:=HC6.trans hc7;have c2:w7.cell? ⟨g6,2,none⟩=some (.int .i64 0):=hB7.cell 2;have f2:=hB7.frozen 2
   have hB8:Blk (w7.setCell ⟨g6,2,none⟩ (.int .i64 (y3:Nat))) g6 26 (arrH ⟨y1,y2,y3,y6,y7,ad0,ad0⟩):=hB7.set_ 2 _;have hC8:Chg [g6] w7 (w7.setCell ⟨g6,2,none⟩ (.int .i64 (y3:Nat))):=(Chg.refl [g6] w7).setCell (p:=⟨g6,2,none⟩) (.inl (by simp)) _;have HI:=zH (And.intro hB8 hC8)
   clear hB8 hC8 hB7 hB6 q28 q20 q0 wy1 wy2 wy6 wy7;go_upto_region 8 with fail
   obtain⟨hB8,hC8⟩:=HI.out;generalize w7.setCell ⟨g6,2,none⟩ (.int .i64 (y3:Nat))=w8 at *;clear HI c2 f2;obtain⟨hX8,hX24⟩:=HX.out;have HG:Hid (∀W,Chg [g6] w7 W→Sl W 0 1 (.slice X8 16 (c-8)) 16 (encA a1)∧Sl W 0 1 (.slice X24 16 (c-24)) 16 (encA a2)):=zH fun W hc=>by
    have hcW:Chg [] w W∨True:=.inr trivial;have hlow:∀{X:Option Addr} {cc:Nat} {xs:List Value},Sl w B 1 (.slice X 16 cc) 16 xs→Sl W 0 1 (.slice X 16 cc) 16 xs:=fun hs=>by
     obtain⟨hl,A,c0,hv,hcap,hr⟩:=hs;refine⟨hl,A,c0,hv,hcap,fun hn=>?_⟩;obtain⟨b',o',hA,hb',hx'⟩:=hr hn;refine⟨b',o',hA,Nat.zero_le _,fun j u hu=>?_⟩;have h0:=hx' j u hu;have h1:=HC7.cell h0 (by simp);refine hc.cell h1 ?_;have:=World.block_lt_of_cell? w _ h0;simp only[List.mem_singleton]
     simp only at this;omega
    exact⟨hlow HS8.out,hlow HS24.out⟩
   have hS0:Chg [g6] w7 w8.drew:=hC8.drew;refine wp_region_held_drew (S:=Chg [g6] w7) (by kernel_rfl) hS0 (fun _=>?_);refine zU 0 rfl (by go_simp<;>with_reducible rfl) ?_
   try simp only[zP]
   refine zU 1 rfl (by go_simp<;>with_reducible rfl) ?_
   try simp only[zP]
   refine zU 2 rfl (by go_simp<;>with_reducible rfl) ?_
   try simp only[zP]
   refine zU 3 rfl (by go_simp<;>with_reducible rfl) ?_
   try simp only[zP]
   refine zR 4 rfl (fun K hK=>?_);refine step_copy_blk rfl (.tmp 43) (.tmp 45) 22 22 rfl 5 Tryz.underlying22 (by kernel_rfl) hB8.drew rfl rfl (HG.out _ hS0).1 (by omega) (by omega) (fun u hu=>by obtain⟨z,_,rfl⟩:=List.mem_map.1 hu;rfl) (by simp) ?_;intro w9 hB9 hc9
   have hB9':Blk w9 g6 26 (arrH ⟨y1,y2,y3,y6,y7,a1,ad0⟩):=hB9;have hS9:Chg [g6] w7 w9:=hS0.trans hc9;refine zB hK ?_;clear hK K
   try simp only[zP]
   refine wpAnyH_done (by kernel_rfl) ?_ _;clear hB9 hc9 hS0 hB8 hC8;go_upto_region 9 with fail
   have hS0:Chg [g6] w7 w9.drew:=hS9.drew;refine wp_region_held_drew (S:=Chg [g6] w7) (by kernel_rfl) hS0 (fun _=>?_);refine zU 0 rfl (by go_simp<;>with_reducible rfl) ?_
   try simp only[zP]
   refine zU 1 rfl (by go_simp<;>with_reducible rfl) ?_
   try simp only[zP]
   refine zU 2 rfl (by go_simp<;>with_reducible rfl) ?_
   try simp only[zP]
   refine zU 3 rfl (by go_simp<;>with_reducible rfl) ?_
   try simp only[zP]
   refine zR 4 rfl (fun K hK=>?_);refine step_copy_blk rfl (.tmp 48) (.tmp 50) 22 22 rfl 5 Tryz.underlying22 (by kernel_rfl) hB9'.drew rfl rfl (HG.out _ hS0).2 (by omega) (by omega) (fun u hu=>by obtain⟨z,_,rfl⟩:=List.mem_map.1 hu;rfl) (by simp) ?_;intro w10 hB10 hc10
   have hB10':Blk w10 g6 26 (arrH ⟨y1,y2,y3,y6,y7,a1,a2⟩):=hB10;have hS10:Chg [g6] w7 w10:=hS0.trans hc10;refine zB hK ?_;clear hK K
   try simp only[zP]
   refine wpAnyH_done (by kernel_rfl) ?_ _;have hB0':=(((hB0.chg hc1 (by simp)).chg hS6' (by simp)).chg hc7 (by simp)).chg hS10 (by simp;omega);have HF:=zH (HC7.trans' hS10 (zN (by omega)));clear hB10 hc10 hS0 hS9 hB9' hX8 hX24 HG hB0 hc1 HC1 hS6' HC6 hc7 HC7 HX;go_wp2_with (first
    |(refine zl rfl 26 (.tmp 6) rfl hB10' rfl _ Tryz.underlying26 rfl infH ?_)
    |(refine zs (vs:=arrH ⟨y1,y2,y3,y6,y7,a1,a2⟩) rfl 26 (.tmp 2) (.tmp 52) rfl rfl hB0' rfl rfl rfl infH rfl ?_;intro w11 hB11 hc11)
    |fail)
   refine bodyPost_ret (zr rfl rfl hB11 _ Tryz.underlying26 rfl infH) rfl ?_;exact⟨by rw[hR.out,HH.out];rfl,HF.out.trans' hc11 (zN (by omega))⟩
  ·have hR:Hid (getV l=.tuple #[.agg arrH0,.int .i64 5]):=zH (by unfold getV getH;rw[if_neg h40,if_pos h6]);have hne:¬(((w4 l 0:Nat):Int)/268435456=6):=by rw[q28];omega
   generalize w4 l 0=x at *;generalize l.length=n at *;clear h hb hl h40 hA g0 g1 g2 g3 g6 g7 hx q28 h6 FV;go_enter Tryz.func92,Tryz.ntmps92
   go_wp2_with fail;refine (FU.out _ HA.out).mono ?_;rintro e w1 ⟨rfl,hc1⟩;have hB1:=hB0.chg hc1 (by simp);have HC1:=zH (HA.out.trans hc1);clear hc1 hB0;go_wp2_with (first
    |(refine zs (vs:=arrH0) rfl 26 (.tmp 2) (.tmp 19) rfl rfl hB1 rfl rfl rfl infH0 rfl ?_;intro w9 hB9 hc9)
    |fail)
   refine bodyPost_ret (zr rfl rfl hB9 _ Tryz.underlying26 rfl infH0) rfl ?_;exact⟨by rw[hR.out];rfl,HC1.out.trans' hc9 (zN (by omega))⟩
end Go.Proofs.YtgbndaiifbogmaaGreat
namespace Go.Proofs.YtgbndaiifbogmaaGreat
open Go.RowKit Go.Maps
section
variable {w:World} {tb m1 m2 m3 q nn:Nat} {vs:Value} {sq:Int} {its:List It} {c:TC}
theorem cput_room (h:CtR w tb m1 m2 m3 q nn vs sq its c) {e:En} (he:okF e.fl) (hk:e.kind=1∨e.kind=2) (hn:hasC c e.fl=false) (hr:c.n≤(c.l.length:Int)) :
  Calls Tryz.prog 222 #[.pointer (some ⟨tb,0,none⟩),.agg (arrN e)] w fun x w'=>x=.returned (.bool false)∧Chg [] w w':=by
 have hcA:=(Chg.refl [] w).alloc (.cells (arrN e) 108);have hBf:Blk (w.alloc (.cells (arrN e) 108)) w.heap.size 108 (arrN e):=Blk.new _ _ _;have hcr:=h.chg0 hcA;have FF:=zH (cis_any hcr);have F0:=zH (fun W' (hc:Chg [] (w.alloc (.cells (arrN e) 108)) W')=>cfind_any (hcr.chg0 hc) he)
 have HI:=zH (And.intro hcA (And.intro hBf (And.intro hn hr)));have HT:=zH hcr;have ck:(w.alloc (.cells (arrN e) 108)).cell? ⟨w.heap.size,34,none⟩=some (.int .i64 e.kind):=hBf.cell 34;have hsz:(w.alloc (.cells (arrN e) 108)).heap.size=w.heap.size+1:=by simp
 clear hcA h hcr hr;go_enter Tryz.func222,Tryz.ntmps222
 go_upto_region 1 with fail
 generalize w.alloc (.cells (arrN e) 108)=w1 at *;have hBr:=rgN_fl hBf.rangeQ;generalize hgf:w.heap.size=gf at *;have HK:=zH hk;clear hBf hk;go_cut [19] (fun v wx=>v=.bool false∧w1=wx)
 case first=>
  have hk:=HK.out;have b12:(e.kind !=1&&e.kind !=2)=false:=by rcases hk with hk|hk<;>simp[hk]
  clear hBr;go_wp2_with fail;refine FF.out.mono ?_;rintro e1 w2 ⟨rfl,rfl⟩;go_wp2_with fail
  ·go_meet
   exact⟨rfl,rfl⟩
  ·go_meet
   exact⟨rfl,rfl⟩
 case rest=>
 obtain⟨rfl,rfl⟩:=hcut;clear FF ck;go_wp2_with (first
  |(refine wpList_row 46 (.tmp 22) rfl rfl gf 0 rfl (arrF e.fl) _ hBr Tryz.underlying46 rfl infF ?_)
  |fail)
 refine (F0.out w1 (Chg.refl _ _)).mono ?_;rintro e1 w2 ⟨rfl,hc2⟩;clear F0;generalize ((getC c e.fl).map (·.1)).getD eN0=x at *;rw[hn];have HR:=zH HI.out.2.2.2;clear hn;have hBl:Blk (w2.alloc (.cells arrN0 108)) w2.heap.size 108 arrN0:=Blk.new _ _ _
 have HC2:=zH (hc2.trans ((Chg.refl [] w2).alloc (.cells arrN0 108)));have HZ2:=zH hc2.size;clear hc2;go_wp2_with (first
  |(refine zs rfl 108 _ _ rfl rfl hBl rfl rfl rfl (infN (e:=x)) rfl ?_;intro w3 hB3 hc3)
  |fail)
 have HC3:Hid (Chg [] w1 w3):=zH (HC2.out.trans' hc3 (by intro y hy;simp at hy;subst hy;exact .inr HZ2.out));clear hBl HC2 hB3 hc3 hBr;go_upto_region 4 with fail
 go_cut [40] (fun v wx=>v=.bool true∧Hid (Chg [] w1 wx))
 case first=>
  have hr:=HR.out;have hr2:decide (c.n≤(c.l.length:Int))=true:=decide_eq_true hr;have HC30:∀W,Chg [] w3 W→W.cell? ⟨tb,3,none⟩=some (.map (some m1)):=fun W hc=>(HC3.out.trans hc).cell (HT.out.blk.cell 3) (by simp)
  have HC00:∀W,Chg [] w3 W→W.cell? ⟨tb,0,none⟩=some (.int .i64 c.n):=fun W hc=>(HC3.out.trans hc).cell (HT.out.blk.cell 0) (by simp)
  have hl:=fun ty=>(HT.out.oe.chg0 (HC3.out.drew)).len Tryz.underlying194 ty
  have hS0:Chg [] w3 w3.drew:=(Chg.refl [] w3).drew;clear hr;refine wp_region_noPanic ?_;refine wp_region_held_drew (S:=Chg [] w3) (by kernel_rfl) hS0 (fun _=>?_);refine zU 0 rfl (by go_simp<;>with_reducible rfl) ?_
  try simp only[zP]
  refine zU 1 rfl (by go_simp<;>with_reducible rfl) ?_
  try simp only[zP]
  refine zU 2 rfl (by go_simp<;>with_reducible rfl) ?_
  try simp only[zP]
  refine zU 3 rfl (by go_simp<;>with_reducible rfl) ?_
  try simp only[zP]
  refine zU 4 rfl (by go_simp<;>with_reducible rfl) ?_
  try simp only[zP]
  refine zU 5 rfl (by go_simp<;>with_reducible rfl) ?_
  try simp only[zP]
  refine zT 6 rfl (zc (by rfl) 194 (.tmp 32) rfl tb 3 rfl (.map (some m1)) _ HC30 Tryz.underlying194 rfl) ?_
  try simp only[zP]
  refine zU 8 rfl (by go_simp<;>with_reducible rfl) ?_
  try simp only[zP]
  refine zU 9 rfl (by go_simp<;>with_reducible rfl) ?_
  try simp only[zP]
  refine zU 10 rfl (by go_simp<;>with_reducible rfl) ?_
  try simp only[zP]
  refine zT 11 rfl (zc (by rfl) 3 (.tmp 37) rfl tb 0 rfl (.int .i64 c.n) _ HC00 Tryz.underlying3 rfl) ?_
  try simp only[zP]
  refine zR 7 rfl (fun K hK=>?_);go_simp
  refine zB hK ?_;clear hK K
  try simp only[zP]
  refine zU 12 rfl (by go_simp<;>with_reducible rfl) ?_
  try simp only[zP]
  refine zU 13 rfl (by go_simp<;>with_reducible rfl) ?_
  try simp only[zP]
  refine wpAnyH_done (by kernel_rfl) ?_ _;refine NoPanic.normal ?_;have HC4:=zH (HC3.out.drew);clear hS0 HC30 HC00 hl;go_wp2_with fail;go_meet
  exact⟨rfl,HC4⟩
 case rest=>
 obtain⟨rfl,HC4⟩:=hcut;clear HR HC3 HZ2;go_wp2_with fail;go_ret
 exact⟨rfl,HI.out.1.trans HC4.out⟩
end
theorem cput_any {W w:World} {tb K:Nat} {c:TC} {S:List Nat} (h:CtS W w tb K c S) (hK:K≤999) {e:En} (he:okF e.fl) :
  Calls Tryz.prog 222 #[.pointer (some ⟨tb,0,none⟩),.agg (arrN e)] w fun x w'=>x=.returned (.bool (putC c e).2)∧CtTo W w tb (K+1) (putC c e).1 S w':=by
 by_cases hk:e.kind=1∨e.kind=2
 ·by_cases hr:hasC c e.fl=false∧c.n≤(c.l.length:Int)
  ·have hp:putC c e=(c,false):=by
    unfold putC;rw[if_neg (by omega),if_pos hr]
   rw[hp];obtain⟨⟨m1,m2,m3,q,nn,vs,sq,its,hcr,r⟩,_⟩:=id h;refine (cput_room hcr he hk hr.1 hr.2).mono ?_;rintro x w' ⟨rfl,hc⟩;exact⟨rfl,h.same (by omega) hc⟩
  ·have hp:putC c e=(⟨c.n,c.now,c.last+1,dropL c.l e.fl ++ [(e,c.last+1)]⟩,true):=by
    unfold putC;rw[if_neg (by omega),if_neg hr]
   rw[hp];refine cput_yes h hK he hk ?_;cases hh:hasC c e.fl with
   |true=>exact .inl rfl
   |false=>
    refine .inr ?_;by_cases h2:(c.l.length:Int)<c.n
    ·exact h2
    ·exact absurd ⟨hh,by omega⟩ hr
 ·have hp:putC c e=(c,false):=by
   unfold putC;rw[if_pos (by omega)]
  rw[hp];obtain⟨⟨m1,m2,m3,q,nn,vs,sq,its,hcr,r⟩,_⟩:=id h;refine (cput_kind hcr (by omega) (by omega)).mono ?_;rintro x w' ⟨rfl,hc⟩;exact⟨rfl,h.same (by omega) hc⟩
end Go.Proofs.YtgbndaiifbogmaaGreat
