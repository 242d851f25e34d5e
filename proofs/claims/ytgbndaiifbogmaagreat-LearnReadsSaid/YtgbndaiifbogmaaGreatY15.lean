/-
  Small laws and walks on the way to LearnReads: Pd, Pe, Pf, Ag2. Conditions: each theorem names its own.
-/
import Derived.Test.YtgbndaiifbogmaaGreatY14
import Derived.Test.YtgbndaiifbogmaaGreatY11
set_option linter.unusedVariables false
set_option linter.unusedSimpArgs false
set_option maxRecDepth 100000
set_option maxHeartbeats 8000000
namespace Go.Proofs.YtgbndaiifbogmaaGreat
open Go.RowKit Go.Maps
theorem run_nilAhead {P:Program} {t:TypeId} {name:String} {f:FuncId} {N:Nat} (h:selOf P t name=some (0,some (f,true))) (v:Value) (w:World):(nilAhead (N+1) t v name).run P w=.ok (some false) w:=by
 obtain⟨i,m,hi,hm,hp,hf⟩:=sel_parts h;simp[nilAhead,typeInfo,hi,hm,hp,hf,followBlind,Result.andThen]
theorem naS (p : Option Addr) (w : World) : (nilAhead (539 + 1) 252 (.pointer p) "harrier/packet.read").run Tryz.prog w = .ok (some false) w :=
 run_nilAhead (f:=365) (by kernel_rfl) _ w
theorem naM (p : Option Addr) (w : World) : (nilAhead (539 + 1) 255 (.pointer p) "harrier/packet.read").run Tryz.prog w = .ok (some false) w :=
 run_nilAhead (f:=381) (by kernel_rfl) _ w
theorem run_assert_yes {P:Program} {t e:TypeId} (ht:P.underlying t=some (.pointer e)) (v:Value) (i:TypeId) (w:World):(Instr.typeAssert (.iface t v) i t true).run P w=.ok (.tuple #[v,.bool true]) w:=by
 simp[Instr.typeAssert,run_underlying ht,Result.andThen]
theorem run_assert_no {P:Program} {t u e:TypeId} (ht:P.underlying t=some (.pointer e)) (hu:u≠t) (hz:∀w:World,(zeroValue t).run P w=.ok (.pointer none) w) (v:Value) (i:TypeId) (w:World):(Instr.typeAssert (.iface u v) i t true).run P w=.ok (.tuple #[.pointer none,.bool false]) w:=by
 simp[Instr.typeAssert,run_underlying ht,Result.andThen,hu,hz]
theorem tcpS_nz {b:By} {n:Int} (h:tcpS b=.error n):n≠0:=tcpS_err h
theorem icmpS_nz {src dst:Ad} {b:By} {n:Int} (h:icmpS src dst b=.error n):n≠0:=by
 unfold icmpS at h
 repeat (first|(split at h)|(injection h with h;omega)|(cases h))
def UpPost (x:Ans Up) (p:Pm) (k:Int) (b:By) (g B:Nat) (e:Ending) (w':World):Prop:=match x with
 |.error n=>e=.returned (.int .i64 n)
 |.ok (.tcp t)=>e=.returned (.int .i64 0)∧∃ov pv bv,Blk w' g 38 (arrPk {p with t:=t.t,ov:=ov,pv:=pv,k:=k,bv:=bv})∧SlY w' B pv t.pay∧SlY w' B bv b∧ov.oneCell'=true
 |.ok (.msg m)=>e=.returned (.int .i64 0)∧∃mv bv,Blk w' g 38 (arrPk {p with mkd:=m.kind,mc:=m.code,mw:=m.word,mb:=mv,k:=k,bv:=bv})∧SlY w' B mv m.body∧SlY w' B bv b
theorem pk_kb (p:Pm) (k:Int) (bv:Value):((arrPk p).setIfInBounds 60 (.int .i64 k)).setIfInBounds 75 bv=arrPk {p with k:=k,bv:=bv}:=by kernel_rfl
theorem upper_any {w:World} {g:Nat} {v:Value} {l:By} {p:Pm} (k:Int) (hk:∀W,Chg [g] w W→SlY W 0 v l) (hb:okB l) (hl:l.length≤1000000) (hB:Blk w g 38 (arrPk p)) (hs:okA p.h.src) (hd:okA p.f) :
  Calls Tryz.prog 95 #[.pointer (some ⟨g,0,none⟩),.int .i64 k,v] w fun e w'=>UpPost (upS p.h.src p.f k l) p k l g w.heap.size e w'∧Chg [g] w w':=by
 obtain⟨A,c,rfl⟩:=(hk w (Chg.refl _ _)).form;have hgl:=hB.lt;have hs':=hs;have hd':=hd;have HX:Hid (upS p.h.src p.f k l=if k=6 then
  match tcpS l with
  |.error e=>.error e
  |.ok t=>if fineC p.h.src p.f 6 l=false then .error 6 else .ok (.tcp t)
 else if k=58 then
  match icmpS p.h.src p.f l with
  |.error e=>.error e
  |.ok m=>.ok (.msg m)
 else .error 7):=zH rfl
 generalize upS p.h.src p.f k l=x at *;have FO:=zH (of_any k w);have HS:=zH (hk w (Chg.refl _ _));have HK:=zH hk;have HOK:=zH hb;clear hk hb;go_enter Tryz.func95,Tryz.ntmps95
 go_wp2_with fail;refine FO.out.mono ?_;rintro e w1 ⟨hp,hc1⟩;have hB1:=hB.chg hc1 (by simp);have HS1:Hid (SlY w1 0 (.slice A l.length c) l):=zH (HS.out.chg0 hc1);have HC1:=zH hc1;have hz1:=hc1.size;clear FO hB hc1;rcases hp with ⟨rfl,gs,rfl,hgs,hBs⟩ | ⟨rfl,gs,rfl,hgs,hBs⟩ | ⟨h6,h58,rfl⟩
 ·have hX:=HX.out;rw[if_pos rfl]at hX;clear HX;have hmr:=mrS (some ⟨gs,0,none⟩);have hna:=naS (some ⟨gs,0,none⟩);have FR:=zH (fun (W:World) (hs:SlY W 0 (.slice A l.length c) l) (hB:Blk W gs 254 (arrTc tc0 noV noV))=>sread_any top_says hs' hd' hs HOK.out hl hB rfl);have hgne:g≠gs:=by omega
  have R1:∀W,Chg [gs] w1 W→W.rangeAt g 5 (arrA p.h.src).toList:=fun W hc=>(hB1.chg hc (by simpa using hgne)).part (o:=5) (arrA p.h.src).toList (pk_src _)
  have R2:∀W,Chg [gs] w1 W→W.rangeAt g 44 (arrA p.f).toList:=fun W hc=>(hB1.chg hc (by simpa using hgne)).part (o:=44) (arrA p.f).toList (pk_f _)
  go_upto_region 4 with fail
  have hD:Chg [gs] w1 w1.drew:=(Chg.refl [gs] w1).drew;have hBd:Blk w1.drew gs 254 (arrTc tc0 noV noV):=hBs.drew;have hSd:SlY w1.drew 0 (.slice A l.length c) l:=(HS1.out.chg0 ((Chg.refl [] w1).drew)).less (Nat.zero_le _);refine wp_region_noPanic ?_
  refine wp_region_held_drew (S:=fun W:World=>Chg [gs] w1 W) (by kernel_rfl) hD (fun _=>?_);refine zU 0 rfl (by go_simp<;>with_reducible rfl) ?_
  try simp only[zP]
  refine zU 1 rfl (by go_simp<;>with_reducible rfl) ?_
  try simp only[zP]
  refine zU 2 rfl (by go_simp<;>with_reducible rfl) ?_
  try simp only[zP]
  refine zU 3 rfl (by go_simp<;>with_reducible rfl) ?_
  try simp only[zP]
  refine zU 4 rfl (by go_simp<;>with_reducible rfl) ?_
  try simp only[zP]
  refine zT 5 rfl (yields_row (by rfl) 24 (.tmp 19) rfl g 5 rfl (arrA p.h.src) _ R1 Tryz.underlying24 rfl infAd) ?_
  try simp only[zP]
  refine zU 6 rfl (by go_simp<;>with_reducible rfl) ?_
  try simp only[zP]
  refine zU 7 rfl (by go_simp<;>with_reducible rfl) ?_
  try simp only[zP]
  refine zU 8 rfl (by go_simp<;>with_reducible rfl) ?_
  try simp only[zP]
  refine zT 9 rfl (yields_row (by rfl) 24 (.tmp 23) rfl g 44 rfl (arrA p.f) _ R2 Tryz.underlying24 rfl infAd) ?_
  try simp only[zP]
  refine zU 10 rfl (by go_simp<;>with_reducible rfl) ?_
  try simp only[zP]
  refine zU 11 rfl (by go_simp<;>with_reducible rfl) ?_
  try simp only[zP]
  refine zU 12 rfl (by go_simp<;>with_reducible rfl) ?_
  try simp only[zP]
  refine zU 13 rfl (by go_simp<;>with_reducible rfl) ?_
  try simp only[zP]
  refine zR 14 rfl (fun K hK=>?_);go_simp
  refine (FR.out _ hSd hBd).mono ?_;rintro e w3 ⟨hp,hc3⟩;obtain⟨n',rfl,hn'⟩:∃n',e=.returned (.int .i64 n')∧((n'≠0∧x=.error n')∨(n'=0∧∃m A n c A2 n2 c2,x=.ok (.tcp m)∧Blk w3 gs 254 (arrTc m.t (.slice A2 n2 c2) (.slice A n c))∧SlY w3 w1.drew.heap.size (.slice A n c) m.pay)):=by
   cases hy:tcpS l with
   |error n=>
    rw[hy]at hp hX;exact⟨n,hp,.inl ⟨tcpS_err hy,hX⟩⟩
   |ok m=>
    rw[hy]at hp hX;rcases hp with ⟨hf,he⟩ | ⟨hf,he,A5,n5,c5,A6,n6,c6,hb5,hs5⟩
    ·refine⟨6,he,.inl ⟨by omega,?_⟩⟩;rw[hX,hf];rfl
    ·refine⟨0,he,.inr ⟨rfl,m,A5,n5,c5,A6,n6,c6,?_,hb5,hs5⟩⟩;rw[hX,hf];rfl
  have hS3:(fun W:World=>Chg [gs] w1 W) w3:=hD.trans hc3;refine zB hK ?_;clear hK K
  try simp only[zP]
  refine zU 15 rfl (by go_simp<;>with_reducible rfl) ?_
  try simp only[zP]
  refine wpAnyH_done (by kernel_rfl) ?_ _;refine NoPanic.normal ?_;have hB3:=hB1.chg hS3 (by simpa using hgne);have HC3:Hid (Chg [] w w3):=zH (HC1.out.trans' hS3 (by intro z hz;simp at hz;right;omega));have HS3:Hid (SlY w3 0 (.slice A l.length c) l):=zH (HS.out.chg0 HC3.out)
  clear hp hX hS3 hc3 hD hBd hSd HS1 FR R1 R2 hmr hna hBs hB1 HC1;rcases hn' with ⟨hn0,hx⟩ | ⟨rfl,m,A5,n5,c5,A6,n6,c6,hx,hb5,hs5⟩
  ·have hnI:(n'==0)=false:=by rw[beq_eq_false_iff_ne];exact hn0
   have hX:=zH hx;clear hx hn0;go_wp2_with fail;go_ret
   rw[hX.out];exact⟨rfl,HC3.out.more (by simp)⟩
  ·have hX:=zH hx;have HP5:=zH hs5;have hta:=fun W=>run_assert_yes Tryz.underlying252 (.pointer (some ⟨gs,0,none⟩)) 249 W
   clear hx hs5;go_wp2_with (first
    |(refine zl rfl 34 (.tmp 40) rfl hb5 rfl _ Tryz.underlying34 rfl infTc ?_)
    |(refine wpList_store_part (vs:=arrTc m.t (.slice A6 n6 c6) (.slice A5 n5 c5)) rfl 34 (.tmp 43) (.tmp 41) rfl rfl hB3 61 rfl rfl (by show 61+10≤76;omega) infTc rfl (pk_tcp _ m.t _ _) ?_;intro w4 hB4 hc4)
    |fail)
   have HS4:=zH (HK.out _ ((HC3.out.more (T:=[g]) (by simp)).trans hc4));have HC4:=zH ((HC3.out.more (T:=[g]) (by simp)).trans hc4);have HP4:=zH (Sl.chg HP5.out hc4 (by intro z hz;simp at hz;subst hz;simp;omega));have hz4:=HC4.out.size;clear hb5 hB3 HS3 HC3 HP5 hc4
   refine (cloneY_any HS4.out hl).mono ?_;rintro e w5 ⟨v5,rfl,ho5,hc5⟩;have hB5:=hB4.chg hc5 (by simp);have c60:=hB5.cell 60;have c75:w5.cell? ⟨g,75,none⟩=some p.bv:=hB5.cell 75;have c60:w5.cell? ⟨g,60,none⟩=some (.int .i64 p.k):=hB5.cell 60;have f60:=hB5.frozen 60;have f75:=hB5.frozen 75
   have hb6:Blk (w5.setCell ⟨g,60,none⟩ (.int .i64 6)) g 38 _:=hB5.set_ 60 _;have hb7:Blk ((w5.setCell ⟨g,60,none⟩ (.int .i64 6)).setCell ⟨g,75,none⟩ v5) g 38 _:=hb6.set_ 75 _;rw[pk_kb]at hb7
   have hc6:Chg [g] w5 ((w5.setCell ⟨g,60,none⟩ (.int .i64 6)).setCell ⟨g,75,none⟩ v5):=((Chg.refl [g] w5).setCell (p:=⟨g,60,none⟩) (.inl (by simp)) _).setCell (p:=⟨g,75,none⟩) (.inl (by simp)) _;have hgw:g<w.heap.size:=hgl
   have HZ:=zH (And.intro hb7 (And.intro ((HC4.out.trans (hc5.more (T:=[g]) (by simp))).trans hc6) (And.intro (Sl.less (Sl.chg (OwY.sl ho5) hc6 (by intro z hz;simp at hz;subst hz;have:=hB4.lt;exact this)) hz4) (Sl.less (Sl.chg (Sl.chg0 HP4.out hc5) hc6 (by intro z hz;simp at hz;subst hz;simp;omega)) (by simp;omega)))))
   obtain⟨A7,c7,rfl⟩:=(OwY.sl ho5).form;clear hB5 hb6 hb7 hc6 ho5 hc5 HC4 HS4 HP4 hB4;go_wp2_with fail;go_ret
   rw[hX.out];obtain⟨q1,q2,q3,q4⟩:=HZ.out;exact⟨⟨rfl,_,_,_,q1,q4,q3,rfl⟩,q2⟩
 ·have hX:=HX.out;rw[if_neg (show ¬(58:Int)=6 by omega),if_pos rfl]at hX;clear HX;have hmr:=mrM (some ⟨gs,0,none⟩);have hna:=naM (some ⟨gs,0,none⟩);have FR:=zH (fun (W:World) (hs:SlY W 0 (.slice A l.length c) l) (hB:Blk W gs 257 (arrMs 0 0 0 noV))=>mread_any hs' hd' hs HOK.out hl hB rfl)
  have hgne:g≠gs:=by omega
  have R1:∀W,Chg [gs] w1 W→W.rangeAt g 5 (arrA p.h.src).toList:=fun W hc=>(hB1.chg hc (by simpa using hgne)).part (o:=5) (arrA p.h.src).toList (pk_src _)
  have R2:∀W,Chg [gs] w1 W→W.rangeAt g 44 (arrA p.f).toList:=fun W hc=>(hB1.chg hc (by simpa using hgne)).part (o:=44) (arrA p.f).toList (pk_f _)
  go_upto_region 4 with fail
  have hD:Chg [gs] w1 w1.drew:=(Chg.refl [gs] w1).drew;have hBd:Blk w1.drew gs 257 (arrMs 0 0 0 noV):=hBs.drew;have hSd:SlY w1.drew 0 (.slice A l.length c) l:=(HS1.out.chg0 ((Chg.refl [] w1).drew)).less (Nat.zero_le _);refine wp_region_noPanic ?_
  refine wp_region_held_drew (S:=fun W:World=>Chg [gs] w1 W) (by kernel_rfl) hD (fun _=>?_);refine zU 0 rfl (by go_simp<;>with_reducible rfl) ?_
  try simp only[zP]
  refine zU 1 rfl (by go_simp<;>with_reducible rfl) ?_
  try simp only[zP]
  refine zU 2 rfl (by go_simp<;>with_reducible rfl) ?_
  try simp only[zP]
  refine zU 3 rfl (by go_simp<;>with_reducible rfl) ?_
  try simp only[zP]
  refine zU 4 rfl (by go_simp<;>with_reducible rfl) ?_
  try simp only[zP]
  refine zT 5 rfl (yields_row (by rfl) 24 (.tmp 19) rfl g 5 rfl (arrA p.h.src) _ R1 Tryz.underlying24 rfl infAd) ?_
  try simp only[zP]
  refine zU 6 rfl (by go_simp<;>with_reducible rfl) ?_
  try simp only[zP]
  refine zU 7 rfl (by go_simp<;>with_reducible rfl) ?_
  try simp only[zP]
  refine zU 8 rfl (by go_simp<;>with_reducible rfl) ?_
  try simp only[zP]
  refine zT 9 rfl (yields_row (by rfl) 24 (.tmp 23) rfl g 44 rfl (arrA p.f) _ R2 Tryz.underlying24 rfl infAd) ?_
  try simp only[zP]
  refine zU 10 rfl (by go_simp<;>with_reducible rfl) ?_
  try simp only[zP]
  refine zU 11 rfl (by go_simp<;>with_reducible rfl) ?_
  try simp only[zP]
  refine zU 12 rfl (by go_simp<;>with_reducible rfl) ?_
  try simp only[zP]
  refine zU 13 rfl (by go_simp<;>with_reducible rfl) ?_
  try simp only[zP]
  refine zR 14 rfl (fun K hK=>?_);go_simp
  refine (FR.out _ hSd hBd).mono ?_;rintro e w3 ⟨hp,hc3⟩;obtain⟨n',rfl,hn'⟩:∃n',e=.returned (.int .i64 n')∧((n'≠0∧x=.error n')∨(n'=0∧∃m A n c,x=.ok (.msg m)∧Blk w3 gs 257 (arrMs m.kind m.code m.word (.slice A n c))∧SlY w3 w1.drew.heap.size (.slice A n c) m.body)):=by
   cases hy:icmpS p.h.src p.f l with
   |error n=>
    rw[hy]at hp hX;exact⟨n,hp,.inl ⟨icmpS_nz hy,hX⟩⟩
   |ok m=>
    rw[hy]at hp hX;obtain⟨he,A5,n5,c5,hb5,hs5⟩:=hp;exact⟨0,he,.inr ⟨rfl,m,A5,n5,c5,hX,hb5,hs5⟩⟩
  have hS3:(fun W:World=>Chg [gs] w1 W) w3:=hD.trans hc3;refine zB hK ?_;clear hK K
  try simp only[zP]
  refine zU 15 rfl (by go_simp<;>with_reducible rfl) ?_
  try simp only[zP]
  refine wpAnyH_done (by kernel_rfl) ?_ _;refine NoPanic.normal ?_;have hB3:=hB1.chg hS3 (by simpa using hgne);have HC3:Hid (Chg [] w w3):=zH (HC1.out.trans' hS3 (by intro z hz;simp at hz;right;omega));have HS3:Hid (SlY w3 0 (.slice A l.length c) l):=zH (HS.out.chg0 HC3.out)
  clear hp hX hS3 hc3 hD hBd hSd HS1 FR R1 R2 hmr hna hBs hB1 HC1;rcases hn' with ⟨hn0,hx⟩ | ⟨rfl,m,A5,n5,c5,hx,hb5,hs5⟩
  ·have hnI:(n'==0)=false:=by rw[beq_eq_false_iff_ne];exact hn0
   have hX:=zH hx;clear hx hn0;go_wp2_with fail;go_ret
   rw[hX.out];exact⟨rfl,HC3.out.more (by simp)⟩
  ·have hX:=zH hx;have HP5:=zH hs5;have hta:=fun W=>run_assert_yes Tryz.underlying255 (.pointer (some ⟨gs,0,none⟩)) 249 W
   have htn:=fun W=>run_assert_no Tryz.underlying252 (u:=255) (by decide) (fun w=>by kernel_rfl) (.pointer (some ⟨gs,0,none⟩)) 249 W
   clear hx hs5;go_wp2_with (first
    |(refine zl rfl 36 (.tmp 50) rfl hb5 rfl _ Tryz.underlying36 rfl infMs ?_)
    |(refine wpList_store_part (vs:=arrMs m.kind m.code m.word (.slice A5 n5 c5)) rfl 36 (.tmp 53) (.tmp 51) rfl rfl hB3 71 rfl rfl (by show 71+4≤76;omega) infMs rfl (pk_msg _ _ _ _ _) ?_;intro w4 hB4 hc4)
    |fail)
   have HS4:=zH (HK.out _ ((HC3.out.more (T:=[g]) (by simp)).trans hc4));have HC4:=zH ((HC3.out.more (T:=[g]) (by simp)).trans hc4);have HP4:=zH (Sl.chg HP5.out hc4 (by intro z hz;simp at hz;subst hz;simp;omega));have hz4:=HC4.out.size;clear hb5 hB3 HS3 HC3 HP5 hc4
   refine (cloneY_any HS4.out hl).mono ?_;rintro e w5 ⟨v5,rfl,ho5,hc5⟩;have hB5:=hB4.chg hc5 (by simp);have c60:=hB5.cell 60;have c75:w5.cell? ⟨g,75,none⟩=some p.bv:=hB5.cell 75;have c60:w5.cell? ⟨g,60,none⟩=some (.int .i64 p.k):=hB5.cell 60;have f60:=hB5.frozen 60;have f75:=hB5.frozen 75
   have hb6:Blk (w5.setCell ⟨g,60,none⟩ (.int .i64 58)) g 38 _:=hB5.set_ 60 _;have hb7:Blk ((w5.setCell ⟨g,60,none⟩ (.int .i64 58)).setCell ⟨g,75,none⟩ v5) g 38 _:=hb6.set_ 75 _;rw[pk_kb]at hb7
   have hc6:Chg [g] w5 ((w5.setCell ⟨g,60,none⟩ (.int .i64 58)).setCell ⟨g,75,none⟩ v5):=((Chg.refl [g] w5).setCell (p:=⟨g,60,none⟩) (.inl (by simp)) _).setCell (p:=⟨g,75,none⟩) (.inl (by simp)) _;have hgw:g<w.heap.size:=hgl
   have HZ:=zH (And.intro hb7 (And.intro ((HC4.out.trans (hc5.more (T:=[g]) (by simp))).trans hc6) (And.intro (Sl.less (Sl.chg (OwY.sl ho5) hc6 (by intro z hz;simp at hz;subst hz;have:=hB4.lt;exact this)) hz4) (Sl.less (Sl.chg (Sl.chg0 HP4.out hc5) hc6 (by intro z hz;simp at hz;subst hz;simp;omega)) (by simp;omega)))))
   obtain⟨A7,c7,rfl⟩:=(OwY.sl ho5).form;clear hB5 hb6 hb7 hc6 ho5 hc5 HC4 HS4 HP4 hB4;go_wp2_with fail;go_ret
   rw[hX.out];obtain⟨q1,q2,q3,q4⟩:=HZ.out;exact⟨⟨rfl,_,_,q1,q4,q3⟩,q2⟩
 ·have hX:=HX.out;rw[if_neg h6,if_neg h58]at hX;have hX:=zH hX;clear HX;go_wp2_with fail;go_ret
  rw[hX.out];exact⟨rfl,HC1.out.more (by simp)⟩
end Go.Proofs.YtgbndaiifbogmaaGreat
namespace Go.Proofs.YtgbndaiifbogmaaGreat
open Go.RowKit Go.Maps
structure PkR (w:World) (B:Nat) (p:Pm) (m:Pk):Prop where
 head:p.h=m.head
 rt:p.rt=m.srh.isSome
 fin:p.f=m.final
 srh:match m.srh with
  |none=>p.s=sr0∧p.sv=noV∧p.tv=noV
  |some s=>p.s=s∧SlD w B p.sv s.segs∧(∃A n c,p.tv=.slice A n c)
 up:match m.up with
  |.tcp t=>p.k=6∧p.t=t.t∧SlY w B p.pv t.pay
  |.msg u=>p.k=58∧p.mkd=u.kind∧p.mc=u.code∧p.mw=u.word∧SlY w B p.mb u.body
 body:SlY w B p.bv m.body
 one:(arrPk p).toList.all (·.oneCell')=true
theorem PkR.chg {w w':World} {B:Nat} {p:Pm} {m:Pk} {S:List Nat} (h:PkR w B p m) (hc:Chg S w w') (hS:∀x∈S,x<B):PkR w' B p m:=by
 refine⟨h.head,h.rt,h.fin,?_,?_,Sl.chg h.body hc hS,h.one⟩
 ·have:=h.srh;cases hm:m.srh with
  |none=>rw[hm]at this;exact this
  |some s=>rw[hm]at this;exact⟨this.1,Sl.chg this.2.1 hc hS,this.2.2⟩
 ·have:=h.up;cases hm:m.up with
  |tcp t=>rw[hm]at this;exact⟨this.1,this.2.1,Sl.chg this.2.2 hc hS⟩
  |msg u=>rw[hm]at this;exact⟨this.1,this.2.1,this.2.2.1,this.2.2.2.1,Sl.chg this.2.2.2.2 hc hS⟩
theorem PkR.less {w:World} {B B':Nat} {p:Pm} {m:Pk} (h:PkR w B p m) (hB:B'≤B):PkR w B' p m:=by
 refine⟨h.head,h.rt,h.fin,?_,?_,Sl.less h.body hB,h.one⟩
 ·have:=h.srh;cases hm:m.srh with
  |none=>rw[hm]at this;exact this
  |some s=>rw[hm]at this;exact⟨this.1,Sl.less this.2.1 hB,this.2.2⟩
 ·have:=h.up;cases hm:m.up with
  |tcp t=>rw[hm]at this;exact⟨this.1,this.2.1,Sl.less this.2.2 hB⟩
  |msg u=>rw[hm]at this;exact⟨this.1,this.2.1,this.2.2.1,this.2.2.2.1,Sl.less this.2.2.2.2 hB⟩
theorem getH_fine {l:By} {h:Hd} (hh:getH l=.ok h) (hb:okB l):okA h.src∧okA h.dst∧40≤l.length:=by
 unfold getH at hh;split at hh
 ·cases hh
 ·split at hh
  ·cases hh
  ·injection hh with hh
   subst hh;exact⟨adAt_ok hb _,adAt_ok hb _,by omega⟩
theorem getH_err {l:By} {n:Int} (hh:getH l=.error n):n≠0:=by
 unfold getH at hh
 repeat (first|(split at hh)|(injection hh with hh;omega)|(cases hh))
theorem okA_0:okA ad0:=by intro x hx;simp[Ad.l]at hx;rcases hx with rfl;decide
theorem routeS_fine {l:By} {h:Hd} {rt:Bool} {r:Option Sr×Ad} (hr:routeS l h rt=.ok r) (hb:okB l) (hd:okA h.dst):okA r.2∧r.1.isSome=rt:=by
 unfold routeS at hr;split at hr
 ·rename_i hrt;injection hr with hr
  subst hr;exact⟨hd,by rw[hrt];rfl⟩
 ·rename_i hrt;split at hr
  ·cases hr
  ·rename_i s n hs;split at hr
   ·cases hr
   ·injection hr with hr
    subst hr;refine⟨?_,by simpa using hrt⟩;obtain⟨⟨i,_,hi⟩,hok⟩:=srhS_fine hs;have h0:s.segs[0]?=some (s.segs.getD 0 ad0):=by
     rw[List.getD_eq_getElem?_getD,List.getElem?_eq_getElem (show 0<s.segs.length by omega)];rfl
    obtain⟨j,hj⟩:=hok _ (List.mem_of_getElem? h0);show okA (s.segs.getD 0 ad0);rw[hj];exact adAt_ok (hb.drop 40) j
theorem routeS_err {l:By} {h:Hd} {rt:Bool} {n:Int} (hr:routeS l h rt=.error n):n≠0:=by
 unfold routeS at hr;split at hr
 ·cases hr
 ·split at hr
  ·rename_i e he;injection hr with hr;subst hr;exact srhS_err he
  ·split at hr
   ·injection hr with hr;omega
   ·cases hr
theorem hdsS_fine {l:By} {nx:Int} {r:Pt×Bool} (h:hdsS l nx=.ok r):r.1.at_≤l.length:=by
 unfold hdsS at h;split at h
 ·cases h
 ·rename_i L hL;split at h
  ·cases h
  ·injection h with h
   subst h;exact (walkS_len hL).2.2
theorem hdsS_err {l:By} {nx:Int} {n:Int} (h:hdsS l nx=.error n):n≠0:=by
 unfold hdsS at h;split at h
 ·rename_i e he;injection h with h;subst h;exact walkS_err he
 ·split at h
  ·injection h with h;omega
  ·cases h
theorem upS_err {src dst:Ad} {k:Int} {b:By} {n:Int} (h:upS src dst k b=.error n):n≠0:=by
 unfold upS at h;split at h
 ·split at h
  ·rename_i e he;injection h with h;subst h;exact tcpS_err he
  ·split at h
   ·injection h with h;omega
   ·cases h
 ·split at h
  ·split at h
   ·rename_i e he;injection h with h;subst h;exact icmpS_nz he
   ·cases h
  ·injection h with h;omega
theorem parseS_eq (b:By):parseS b=if 1500<b.length then .error 4
 else match getH b with
  |.error e=>.error e
  |.ok h=>
   if h.len≠(b.length:Int)-40 then .error 5
   else match hdsS b h.nxt with
    |.error e=>.error e
    |.ok r=>match routeS b h r.2 with
      |.error e=>.error e
      |.ok q=>match upS h.src q.2 r.1.kind (b.drop r.1.at_) with
       |.error e=>.error e
       |.ok u=>.ok ⟨h,q.1,q.2,u,b.drop r.1.at_⟩:=by
 unfold parseS hdsS;split
 ·rfl
 ·split
  ·rename_i h;rw[h]
  ·rename_i h hh;rw[hh];simp only
   split
   ·rfl
   ·cases walkS b h.nxt 40 with
    |error e=>rfl
    |ok L=>
     simp only
     cases hl:lateW L with
     |true=>simp
     |false=>
      simp only[Bool.false_eq_true,↓reduceIte];cases routeS b h (firstW L) with
      |error e=>rfl
      |ok r=>rfl
end Go.Proofs.YtgbndaiifbogmaaGreat
namespace Go.Proofs.YtgbndaiifbogmaaGreat
open Go.RowKit Go.Maps
theorem pk_one (p:Pm) (h:p.sv.oneCell'=true∧p.tv.oneCell'=true∧p.ov.oneCell'=true∧p.pv.oneCell'=true∧p.mb.oneCell'=true∧p.bv.oneCell'=true):(arrPk p).toList.all (·.oneCell')=true:=by
 obtain⟨h1,h2,h3,h4,h5,h6⟩:=h;simp only[arrPk,List.all_cons,List.all_nil,h1,h2,h3,h4,h5,h6];rfl
theorem Sl.one {w:World} {B s n:Nat} {v:Value} {xs:List Value} (h:Sl w B s v n xs):v.oneCell'=true:=by
 obtain⟨A,c,rfl⟩:=h.form;rfl
def PaPost (x:Ans Pk) (g B:Nat) (e:Ending) (w':World):Prop:=match x with
 |.error n=>e=.returned (.int .i64 n)
 |.ok m=>e=.returned (.int .i64 0)∧∃p,Blk w' g 38 (arrPk p)∧PkR w' B p m
theorem upS_tcp {src dst:Ad} {k:Int} {b:By} {t:Tp} (h:upS src dst k b=.ok (.tcp t)):k=6:=by
 unfold upS at h;split at h
 ·assumption
 ·split at h
  ·split at h
   ·cases h
   ·cases h
  ·cases h
theorem upS_msg {src dst:Ad} {k:Int} {b:By} {t:Ms} (h:upS src dst k b=.ok (.msg t)):k=58:=by
 unfold upS at h;split at h
 ·split at h
  ·cases h
  ·split at h
   ·cases h
   ·cases h
 ·split at h
  ·assumption
  ·cases h
theorem PaPost.err {x:Ans Pk} {g B:Nat} {w':World} {n:Int} (h:x=.error n):PaPost x g B (.returned (.int .i64 n)) w':=by subst h;rfl
theorem parse_big {w:World} {g:Nat} {v:Value} {l:By} (hk:∀W,Chg [g] w W→SlY W 0 v l) (hb:okB l) (hl:l.length≤9223372036854775807) (hB:Blk w g 38 (arrPk pm0)) :
  Calls Tryz.prog 40 #[.pointer (some ⟨g,0,none⟩),v] w fun e w'=>PaPost (parseS l) g w.heap.size e w'∧Chg [g] w w':=by
 obtain⟨A,c,rfl⟩:=(hk w (Chg.refl _ _)).form;have hgl:=hB.lt;have HX:=zH (parseS_eq l);generalize parseS l=x at *;have HK:=zH hk;have HOK:=zH hb;have FG:=zH (sget_big (hk w (Chg.refl _ _)) hb hl);clear hk hb;by_cases h15:1500<l.length
 ·have hX:=HX.out;rw[if_pos h15]at hX;have hI:(1500:Int)<(l.length:Int):=by omega
  replace hX:=zH hX;clear HX FG h15;go_enter Tryz.func40,Tryz.ntmps40
  go_wp2_with fail;go_ret
  exact⟨PaPost.err hX.out,Chg.refl _ _⟩
 ·have hI:¬(1500:Int)<(l.length:Int):=by omega
  have hl:l.length≤1000000:=by omega
  have hX:=HX.out;rw[if_neg h15]at hX;replace HX:=zH hX;clear hX h15;go_enter Tryz.func40,Tryz.ntmps40
  go_wp2_with fail;refine FG.out.mono ?_;rintro e w1 ⟨rfl,hc1⟩;have hB1:=(hB.chg hc1 (by simp)).alloc (.cells arrH0 26);have hBh:Blk (w1.alloc (.cells arrH0 26)) w1.heap.size 26 arrH0:=Blk.new _ _ _;have HC1:=zH (hc1.alloc (.cells arrH0 26));have hz1:=hc1.size;clear FG hB hc1
  have HF:=zH (fun h (hh:getH l=.ok h)=>getH_fine hh HOK.out);have HE:=zH (fun n (hh:getH l=.error n)=>getH_err hh);unfold getV;generalize getH l=y at *;cases y with
  |error n=>
   have hn:=HE.out n rfl;have hnI:(n !=0)=true:=by simpa using hn
   have hX:=zH HX.out;simp only at hX;clear HX hn HE HF;go_wp2_with (first
    |(refine zs (vs:=arrH0) rfl 26 (.tmp 5) (.tmp 15) rfl rfl hBh rfl rfl rfl infH0 rfl ?_;intro w2 hB2 hc2)
    |fail)
   go_ret
   exact⟨PaPost.err hX.out,(HC1.out.trans' hc2 (zN (by omega))).more (by simp)⟩
  |ok h=>
   obtain⟨hsa,hda,h40⟩:=HF.out h rfl;have hX:=HX.out;simp only at hX;replace HX:=zH hX;have hw:IntKind.i64.wrap ((l.length:Int)-40)=(l.length:Int)-40:=by rw[IntKind.wrap_i64];omega
   clear hX HE HF;go_upto_region 7 with (first
    |(refine zs (vs:=arrH h) rfl 26 (.tmp 5) (.tmp 15) rfl rfl hBh rfl rfl rfl infH rfl ?_;intro w2 hB2 hc2)
    |(refine zl rfl 26 (.tmp 5) rfl hB2 rfl _ Tryz.underlying26 rfl infH ?_)
    |(have hB12:=hB1.chg hc2 (by simp;omega);refine wpList_store_part (vs:=arrH h) rfl 26 (.tmp 23) (.tmp 21) rfl rfl hB12 0 rfl rfl (by show 0+37≤76;omega) infH rfl (pk_head pm0 h) ?_;intro w3 hB3 hc3)
    |fail)
   have hB23:=hB2.chg hc3 (by simp;omega);have c2:w3.cell? ⟨w1.heap.size,2,none⟩=some (.int .i64 h.len):=hB23.cell 2;have HC3:=zH (((HC1.out.trans' hc2 (zN (by omega))).more (T:=[g]) (by simp)).trans hc3);clear hB1 hBh hB12 hB2 hc2 hc3 HC1 hB23;by_cases hlen:h.len=(l.length:Int)-40
   ·have hX:=HX.out;rw[if_neg (by simpa using hlen)]at hX;replace HX:=zH hX;have hI2:(h.len !=(l.length:Int)-40)=false:=by rw[bne_eq_false_iff_eq];exact hlen
    have FH:=zH (headers_any (p:={pm0 with h:=h}) (HK.out w3 HC3.out) HOK.out hl hB3 rfl);have HY:=zH (fun r (hr:hdsS l h.nxt=.ok r)=>hdsS_fine hr);have HYE:=zH (fun n (hr:hdsS l h.nxt=.error n)=>hdsS_err hr);have HN:Hid (h.len=(l.length:Int)-40):=zH hlen;clear hX hlen;go_wp2_with fail
    refine FH.out.mono ?_;rintro e w4 ⟨hp,hc4⟩;have HC4:=zH (HC3.out.trans hc4);have hz4:=HC4.out.size;clear FH c2 HC3;have hBp:Blk (w4.alloc (.cells arrP0 176)) w4.heap.size 176 arrP0:=Blk.new _ _ _;have hp':HdsPost (hdsS l h.nxt) {pm0 with h:=h} g e w4:=hp;clear hp;generalize hdsS l h.nxt=y at *
    cases y with
    |error n=>
     obtain rfl:e=_:=hp';have hn:=HYE.out n rfl;have hnI:(n !=0)=true:=by simpa using hn
     have hX:=HX.out;simp only at hX;replace hX:=zH hX;clear HX hn HY HYE hc4;go_wp2_with (first
      |(refine zs (vs:=arrP0) rfl 176 (.tmp 7) (.tmp 34) rfl rfl hBp rfl rfl rfl infP0 rfl ?_;intro w5 hB5 hc5)
      |fail)
     go_ret
     exact⟨PaPost.err hX.out,(HC4.out.alloc _).trans' hc5 (zN (by omega))⟩
    |ok r=>
     obtain⟨rfl,hB4⟩:=hp';obtain⟨pt,rt⟩:=r;have hat:=HY.out _ rfl;have hX:=HX.out;simp only at hX;replace HX:=zH hX;simp only at hat;clear hX HY HYE hc4 hB3;have hgw4:=hB4.lt;have hB41:=hB4.alloc (.cells arrP0 176);go_upto_region 10 with (first
      |(refine zs (vs:=arrP pt) rfl 176 (.tmp 7) (.tmp 34) rfl rfl hBp rfl rfl rfl infP rfl ?_;intro w5 hB5 hc5)
      |fail)
     have hB45:=hB41.chg hc5 (by simp;omega);have HC5:=zH ((HC4.out.alloc (.cells arrP0 176)).trans' hc5 (zN (by omega)));have hz5:=HC5.out.size;clear hBp hB4 hB41 hc5 HC4;have FR:=zH (route_any (p:={pm0 with h:=h,rt:=rt}) (fun W hc=>HK.out W (HC5.out.trans hc)) HOK.out hl h40 hB45 hda)
     have HRF:=zH (fun r (hr:routeS l h rt=.ok r)=>routeS_fine hr HOK.out hda);have HRE:=zH (fun n (hr:routeS l h rt=.error n)=>routeS_err hr);go_wp2_with fail;refine FR.out.mono ?_;rintro e w6 ⟨hp,hc6⟩;have hB56:=hB5.chg hc6 (by simp;omega);have HC6:=zH (HC5.out.trans hc6);have hz6:=HC6.out.size
     have hsub:=hc6.size;have hp':RtPost (routeS l h rt) {pm0 with h:=h,rt:=rt} g w5.heap.size e w6:=hp;clear FR hp hB5 hc6 HC5 hB45;generalize routeS l h rt=y at *;cases y with
     |error n=>
      obtain rfl:e=_:=hp';have hn:=HRE.out n rfl;have hnI:(n !=0)=true:=by simpa using hn
      have hX:=HX.out;simp only at hX;replace hX:=zH hX;clear HX hn HRE HRF;go_wp2_with fail;go_ret
      exact⟨PaPost.err hX.out,HC6.out⟩
     |ok q=>
      obtain⟨hqf,hqr⟩:=HRF.out _ rfl;obtain⟨rfl,p2,hB6,hph,hpr,hpf,hps,hpo⟩:e=.returned (.int .i64 0)∧∃p2,Blk w6 g 38 (arrPk p2)∧p2.h=h∧p2.rt=rt∧p2.f=q.2∧(match q.1 with
        |none=>p2.s=sr0∧p2.sv=noV∧p2.tv=noV
        |some s=>p2.s=s∧SlD w6 w5.heap.size p2.sv s.segs∧∃A n c,p2.tv=.slice A n c)∧(p2.sv.oneCell'=true∧p2.tv.oneCell'=true∧p2.ov.oneCell'=true∧p2.pv.oneCell'=true∧p2.mb.oneCell'=true∧p2.bv.oneCell'=true):=by
       obtain⟨o,f⟩:=q;cases o with
       |none=>obtain⟨he,hb⟩:=hp';exact⟨he,_,hb,rfl,rfl,rfl,⟨rfl,rfl,rfl⟩,rfl,rfl,rfl,rfl,rfl,rfl⟩
       |some s=>obtain⟨he,sv,A2,m2,c2,hb,hs⟩:=hp';exact⟨he,_,hb,rfl,rfl,rfl,⟨rfl,hs,_,_,_,rfl⟩,Sl.one hs,rfl,rfl,rfl,rfl,rfl⟩
      have hX:=HX.out;simp only at hX;replace HX:=zH hX;obtain⟨X,hXr,hXs⟩:=cutYf_all (C:=fun W=>Chg [g] w6 W) (Chg.refl _ w6) (fun W hc=>HK.out W (HC6.out.trans hc)) hat
      have FU:=zH (fun (W:World) (hd:Chg [] w6 W)=>upper_any (p:=p2) pt.kind (fun W' hc=>hXs W' ((hd.more (T:=[g]) (by simp)).trans hc)) (HOK.out.drop pt.at_) (by rw[List.length_drop];omega) (hB6.chg hd (by simp)) (by rw[hph];exact hsa) (by rw[hpf];exact hqf));have HPS:=zH hps;have HPO:=zH hpo
      have S2:=zH (fun W (hd:Chg [g] w6 W)=>(hB56.chg hd (by simp;omega)).cell 0);have S5:=zH (fun W (hd:Chg [g] w6 W)=>(hB56.chg hd (by simp;omega)).cell 1);have hz56:=hB56.lt;have HPH:=zH (And.intro hph (And.intro hpr hpf));clear hX hp' hps hpo hXs hB56 HRE HRF hph hpr hpf hB6 hsa hda hqf
      go_upto_region 15 with fail
      have hD:Chg [g] w6 w6.drew:=(Chg.refl [g] w6).drew;have hD0:Chg [] w6 w6.drew:=(Chg.refl [] w6).drew;refine wp_region_noPanic ?_;refine wp_region_held_drew (S:=fun W:World=>Chg [g] w6 W) (by kernel_rfl) hD (fun _=>?_);refine zU 0 rfl (by go_simp<;>with_reducible rfl) ?_
      try simp only[zP]
      refine zU 1 rfl (by go_simp<;>with_reducible rfl) ?_
      try simp only[zP]
      refine zT 2 rfl (zc (by rfl) 3 (.tmp 46) rfl w4.heap.size 0 rfl (.int .i64 pt.kind) _ S2.out Tryz.underlying3 rfl) ?_
      try simp only[zP]
      refine zU 3 rfl (by go_simp<;>with_reducible rfl) ?_
      try simp only[zP]
      refine zU 4 rfl (by go_simp<;>with_reducible rfl) ?_
      try simp only[zP]
      refine zT 5 rfl (zc (by rfl) 3 (.tmp 49) rfl w4.heap.size 1 rfl (.int .i64 (pt.at_:Nat)) _ S5.out Tryz.underlying3 rfl) ?_
      try simp only[zP]
      refine zU 6 rfl (by go_simp<;>with_reducible rfl) ?_
      try simp only[zP]
      refine zR 7 rfl (fun K hK=>?_);go_simp
      refine (FU.out _ hD0).mono ?_;rintro e w7 ⟨hp,hc7⟩;have hC7:Chg [g] w6 w7:=hD.trans hc7;have HZ7:=HC6.out.trans hC7;obtain⟨n',rfl,hn'⟩:∃n',e=.returned (.int .i64 n')∧PaPost x g w.heap.size (.returned (.int .i64 n')) w7:=by
       obtain⟨hph,hpr,hpf⟩:=HPH.out;obtain⟨o1,o2,o3,o4,o5,o6⟩:=HPO.out;have hX:=HX.out;have hp':UpPost (upS h.src q.2 pt.kind (l.drop pt.at_)) p2 pt.kind (l.drop pt.at_) g w6.heap.size e w7:=by
        rw[←hph,←hpf];exact hp
       have hsr:(match q.1 with
         |none=>p2.s=sr0∧p2.sv=noV∧p2.tv=noV
         |some s=>p2.s=s∧SlD w7 w.heap.size p2.sv s.segs∧∃A n c,p2.tv=.slice A n c):=by
        have h0:=HPS.out;cases hq:q.1 with
        |none=>rw[hq]at h0;exact h0
        |some s=>rw[hq]at h0;exact⟨h0.1,Sl.less (Sl.chg h0.2.1 hC7 (by intro z hz;simp at hz;omega)) hz5,h0.2.2⟩
       cases hy:upS h.src q.2 pt.kind (l.drop pt.at_) with
       |error n=>
        rw[hy]at hp' hX;exact⟨n,hp',PaPost.err hX⟩
       |ok u=>
        rw[hy]at hp' hX;cases u with
        |tcp t=>
         obtain⟨he,ov,pv,bv,hb,hs1,hs2,ho⟩:=hp';refine⟨0,he,?_⟩;rw[hX];exact⟨rfl,_,hb,⟨hph,by rw[hqr];exact hpr,hpf,hsr,⟨upS_tcp hy,rfl,Sl.less hs1 hz6⟩,Sl.less hs2 hz6,pk_one _ ⟨o1,o2,ho,Sl.one hs1,o5,Sl.one hs2⟩⟩⟩
        |msg m=>
         obtain⟨he,ov,bv,hb,hs1,hs2⟩:=hp';refine⟨0,he,?_⟩;rw[hX];exact⟨rfl,_,hb,⟨hph,by rw[hqr];exact hpr,hpf,hsr,⟨upS_msg hy,rfl,rfl,rfl,Sl.less hs1 hz6⟩,Sl.less hs2 hz6,pk_one _ ⟨o1,o2,o3,o4,Sl.one hs1,Sl.one hs2⟩⟩⟩
      have hS7:(fun W:World=>Chg [g] w6 W) w7:=hC7;clear hp hc7;refine zB hK ?_;clear hK K
      try simp only[zP]
      refine zU 8 rfl (by go_simp<;>with_reducible rfl) ?_
      try simp only[zP]
      refine wpAnyH_done (by kernel_rfl) ?_ _;refine NoPanic.normal ?_;go_wp2_with fail;go_ret
      exact⟨hn',HZ7⟩
   ·have hX:=HX.out;rw[if_pos (by simpa using hlen)]at hX;have hI2:(h.len !=(l.length:Int)-40)=true:=by simpa using hlen
    replace hX:=zH hX;clear HX hlen;go_wp2_with fail;go_ret
    exact⟨PaPost.err hX.out,HC3.out⟩
theorem parse_any {w:World} {g:Nat} {v:Value} {l:By} (hk:∀W,Chg [g] w W→SlY W 0 v l) (hb:okB l) (hl:l.length≤1000000) (hB:Blk w g 38 (arrPk pm0)):Calls Tryz.prog 40 #[.pointer (some ⟨g,0,none⟩),v] w fun e w'=>PaPost (parseS l) g w.heap.size e w'∧Chg [g] w w':=parse_big hk hb (by omega) hB
def PkPost (x:Ans Pk) (B:Nat) (e:Ending) (w':World):Prop:=match x with
 |.error n=>e=.returned (.tuple #[.agg (arrPk pm0),.int .i64 n])
 |.ok m=>∃p,e=.returned (.tuple #[.agg (arrPk p),.int .i64 0])∧PkR w' B p m
theorem parseS_err {l:By} {n:Int} (h:parseS l=.error n):n≠0:=by
 rw[parseS_eq]at h;split at h
 ·injection h with h;omega
 ·split at h
  ·rename_i e he;injection h with h;subst h;exact getH_err he
  ·split at h
   ·injection h with h;omega
   ·split at h
    ·rename_i e he;injection h with h;subst h;exact hdsS_err he
    ·split at h
     ·rename_i e he;injection h with h;subst h;exact routeS_err he
     ·split at h
      ·rename_i e he;injection h with h;subst h;exact upS_err he
      ·cases h
theorem pparse_big {w:World} {v:Value} {l:By} (h:SlY w 0 v l) (hb:okB l) (hl:l.length≤9223372036854775807) :
  Calls Tryz.prog 10 #[v] w fun e w'=>PkPost (parseS l) w.heap.size e w'∧Chg [] w w':=by
 obtain⟨A,c,rfl⟩:=h.form;have hA:=((Chg.refl [] w).alloc (.cells (arrPk pm0) 38)).alloc (.cells (arrPk pm0) 38);have hB0:Blk ((w.alloc (.cells (arrPk pm0) 38)).alloc (.cells (arrPk pm0) 38)) w.heap.size 38 (arrPk pm0):=(Blk.new _ _ _).alloc _
 have hB1:Blk ((w.alloc (.cells (arrPk pm0) 38)).alloc (.cells (arrPk pm0) 38)) (w.heap.size+1) 38 (arrPk pm0):=Blk.new' (by simp);have FP:=zH (parse_big (g:=w.heap.size+1) (fun W hc=>Sl.new h (hA.trans' hc (by intro z hz;simp at hz;right;omega)) (by intro z hz;simp at hz)) hb hl hB1)
 have HE:=zH (fun n (hr:parseS l=.error n)=>parseS_err hr);generalize parseS l=x at *;have HA:=zH hA;clear hA h hb hB1;go_enter Tryz.func10,Tryz.ntmps10
 go_wp2_with fail;refine FP.out.mono ?_;rintro e w1 ⟨hp,hc1⟩;have HC1:=zH (HA.out.trans' hc1 (by intro z hz;simp at hz;right;omega));have hB2:=hB0.chg hc1 (by simp);clear FP HA hB0 hc1;cases x with
 |error n=>
  obtain rfl:e=_:=hp;have hn:=HE.out n rfl;have hnI:(n !=0)=true:=by simpa using hn
  clear hn HE;go_wp2_with (first
   |(refine zs (vs:=arrPk pm0) rfl 38 (.tmp 2) (.tmp 13) rfl rfl hB2 rfl rfl rfl infPk rfl ?_;intro w2 hB3 hc2)
   |fail)
  refine bodyPost_ret (zr rfl rfl hB3 _ Tryz.underlying38 rfl infPk) rfl ?_;exact⟨rfl,HC1.out.trans' hc2 (zN (by omega))⟩
 |ok m=>
  obtain⟨rfl,p,hBp,hR⟩:=hp;have ho:=hR.one;have HR:=zH hR;clear hR HE;go_wp2_with (first
   |(refine zl rfl 38 (.tmp 16) rfl hBp rfl _ Tryz.underlying38 rfl infPk ?_)
   |(refine zs (vs:=arrPk p) rfl 38 (.tmp 2) (.tmp 17) rfl rfl hB2 rfl rfl rfl infPk ho ?_;intro w2 hB3 hc2)
   |fail)
  refine bodyPost_ret (zr rfl rfl hB3 _ Tryz.underlying38 rfl infPk) rfl ?_;refine⟨⟨p,rfl,?_⟩,HC1.out.trans' hc2 (zN (by omega))⟩;exact (HR.out.chg hc2 (by intro z hz;simp at hz;subst hz;simp;omega)).less (by simp;omega)
theorem pparse_any {w:World} {v:Value} {l:By} (h:SlY w 0 v l) (hb:okB l) (hl:l.length≤1000000):Calls Tryz.prog 10 #[v] w fun e w'=>PkPost (parseS l) w.heap.size e w'∧Chg [] w w':=pparse_big h hb (by omega)
end Go.Proofs.YtgbndaiifbogmaaGreat
namespace Go.Proofs.YtgbndaiifbogmaaGreat
open Go.RowKit Go.Maps
structure Jm where
 (ga:Nat) (bv:Value) (p:Pm) (n d r:Int) (f:Fl) (e:En) (is:Bool) (v:Int)
def lJ (J:Jm):List Value:=[.pointer (some ⟨J.ga,0,none⟩),J.bv]++(arrPk J.p).toList ++ [.int .i64 J.n,.int .i64 J.d,.int .u32 J.r]++(arrF J.f).toList++(arrN J.e).toList ++ [.bool J.is,.int .i64 J.v]
def arrJ (J:Jm):Array Value:=(lJ J).toArray
theorem j_size (J:Jm):(arrJ J).size=163:=by kernel_rfl
theorem j_a (J:Jm):(arrJ J)[0]?=some (.pointer (some ⟨J.ga,0,none⟩)):=by kernel_rfl
theorem j_seq (J:Jm):(arrJ J)[65]?=some (.int .u32 J.p.t.seq):=by kernel_rfl
theorem j_arg (J:Jm):(arrJ J)[80]?=some (.int .u32 J.r):=by kernel_rfl
theorem j_sport (J:Jm):(arrJ J)[97]?=some (.int .i64 J.f.sport):=by kernel_rfl
theorem j_dport (J:Jm):(arrJ J)[114]?=some (.int .i64 J.f.dport):=by kernel_rfl
theorem j_passed (J:Jm):(arrJ J)[152]?=some (.int .i64 J.e.passed):=by kernel_rfl
theorem j_is (J:Jm):(arrJ J)[161]?=some (.bool J.is):=by kernel_rfl
theorem j_v (J:Jm):(arrJ J)[162]?=some (.int .i64 J.v):=by kernel_rfl
theorem jp_tcp (J:Jm):((arrJ J).toList.drop 63).take (arrTc J.p.t J.p.ov J.p.pv).toList.length=(arrTc J.p.t J.p.ov J.p.pv).toList:=by kernel_rfl
theorem jp_f (J:Jm):((arrJ J).toList.drop 81).take (arrF J.f).toList.length=(arrF J.f).toList:=by kernel_rfl
theorem jp_src (J:Jm):((arrJ J).toList.drop 81).take (arrA J.f.src).toList.length=(arrA J.f.src).toList:=by kernel_rfl
theorem jp_dst (J:Jm):((arrJ J).toList.drop 98).take (arrA J.f.dst).toList.length=(arrA J.f.dst).toList:=by kernel_rfl
theorem js_p (J:Jm) (p:Pm):putAt (arrJ J) 2 (arrPk p).toList=arrJ {J with p:=p}:=by kernel_rfl
theorem js_s (J:Jm) (n d r:Int):putAt (arrJ J) 78 [.int .i64 n,.int .i64 d,.int .u32 r]=arrJ {J with n:=n,d:=d,r:=r}:=by kernel_rfl
theorem js_f (J:Jm) (f:Fl):putAt (arrJ J) 81 (arrF f).toList=arrJ {J with f:=f}:=by kernel_rfl
theorem js_e (J:Jm) (e:En):putAt (arrJ J) 115 (arrN e).toList=arrJ {J with e:=e}:=by kernel_rfl
theorem js_is (J:Jm) (b:Bool):(arrJ J).setIfInBounds 161 (.bool b)=arrJ {J with is:=b}:=by kernel_rfl
theorem js_v (J:Jm) (v:Int):(arrJ J).setIfInBounds 162 (.int .i64 v)=arrJ {J with v:=v}:=by kernel_rfl
theorem Blk.at_ {w:World} {g:Nat} {t:TypeId} {cs:Array Value} {i:Nat} {v:Value} (h:Blk w g t cs) (e:cs[i]?=some v):w.cell? ⟨g,i,none⟩=some v:=by rw[h.cell];exact e
theorem until_any {W w:World} {gj:Nat} {J:Jm} {node load:Int} {tb gp gt K:Nat} {c:TC} {S:List Nat} {pv dr:Array Value} (hj:Blk w gj 154 (arrJ J)) (hg:AgR W w J.ga node load tb gp gt K c S pv dr) {k:Int} (hk:IntKind.i64.wrap (c.now+k)=c.now+k) :
  Calls Tryz.prog 230 #[.pointer (some ⟨gj,0,none⟩),.int .i64 k] w fun e w'=>e=.returned (.int .i64 (c.now+k))∧w=w':=by
 have c0:=hj.at_ (j_a J);have c2:w.cell? ⟨J.ga,2,none⟩=some (.pointer (some ⟨tb,0,none⟩)):=hg.blk.cell 2;obtain⟨m1,m2,m3,q,nn,vs,sq,its,hr,_⟩:=hg.ct.r;have F:=zH (cnow_any hr);clear hj hg hr;go_enter Tryz.func230,Tryz.ntmps230
 go_wp2_with fail;refine F.out.mono ?_;rintro e w1 ⟨rfl,rfl⟩;go_wp2_with fail;go_ret
 exact⟨rfl,rfl⟩
theorem own_any {w:World} {gj:Nat} {J:Jm} (hj:Blk w gj 154 (arrJ J)) (hi:J.is=false) :
  Calls Tryz.prog 183 #[.pointer (some ⟨gj,0,none⟩)] w fun e w'=>e=.returned (.bool false)∧w=w':=by
 have c1:=hj.at_ (j_is J);rw[hi]at c1;clear hj hi;go_enter Tryz.func183,Tryz.ntmps183
 go_wp2_with fail;go_ret
 exact⟨rfl,rfl⟩
@[reducible] def memE (J:Jm) (kind til:Int):En:=⟨J.f,kind,J.p.t.seq,J.v,J.e.passed,til,0,0,0,0,0,0,0⟩
theorem memory_any {W w:World} {gj:Nat} {J:Jm} {node load:Int} {tb gp gt K:Nat} {c:TC} {S:List Nat} {pv dr:Array Value} (hj:Blk w gj 154 (arrJ J)) (hg:AgR W w J.ga node load tb gp gt K c S pv dr) (kind:Int) (hk:IntKind.i64.wrap (c.now+16)=c.now+16) :
  Calls Tryz.prog 221 #[.pointer (some ⟨gj,0,none⟩),.int .i64 kind] w fun e w'=>e=.returned (.agg (arrN (memE J kind (c.now+16))))∧Chg [] w w':=by
 have hZ:Blk (w.alloc (.cells (arrN eN0) 108)) w.heap.size 108 (arrN eN0):=Blk.new _ _ _;have hA:=(Chg.refl [] w).alloc (.cells (arrN eN0) 108);obtain⟨w0,hw0⟩:∃u,u=w.alloc (.cells (arrN eN0) 108):=⟨_,rfl⟩;rw[←hw0]at hZ hA;have hjl:=hj.lt;have HJ:=zH (hj.chg hA (by simp))
 have HG:=zH (fun U (hc:Chg [] w0 U)=>(AgR.mk (hg.blk.chg (hA.trans hc) (by simp)) (hg.ct.chg0 (hA.trans hc)) (hg.po.chg (hA.trans hc) (by simp)) (hg.ty.chg (hA.trans hc) (by simp)) hg.ne hg.lo:AgR W U J.ga node load tb gp gt K c S pv dr));have HW0:=zH hw0;clear hj hg hw0
 go_enter Tryz.func221,Tryz.ntmps221
 go_upto_region 1 with fail
 show Code.wp _ _ _ _ (w.alloc (.cells (arrN eN0) 108));rw[←HW0.out];have SF:Hid (∀U,Chg [w.heap.size] w0 U→U.rangeAt gj 81 (arrF J.f).toList):=zH (fun U hc=>(HJ.out.chg hc (by simp;omega)).part _ (jp_f J))
 have SS:Hid (∀U,Chg [w.heap.size] w0 U→U.cell? ⟨gj,65,none⟩=some (.int .u32 J.p.t.seq)):=zH (fun U hc=>(HJ.out.chg hc (by simp;omega)).at_ (j_seq J));have SV:Hid (∀U,Chg [w.heap.size] w0 U→U.cell? ⟨gj,162,none⟩=some (.int .i64 J.v)):=zH (fun U hc=>(HJ.out.chg hc (by simp;omega)).at_ (j_v J))
 have SP:Hid (∀U,Chg [w.heap.size] w0 U→U.cell? ⟨gj,152,none⟩=some (.int .i64 J.e.passed)):=zH (fun U hc=>(HJ.out.chg hc (by simp;omega)).at_ (j_passed J));have hD:(fun U:World=>Chg [] w0 U) w0.drew:=(Chg.refl [] w0).drew;have hzl:=hZ.lt
 have FU:=zH (fun U (hc:Chg [] w0 U)=>until_any (k:=16) (HJ.out.chg hc (by simp)) (HG.out U hc) hk);have HZ:=zH hZ;have HA:=zH hA;clear hZ hA hk HG HW0;refine wp_region_noPanic ?_;refine wp_region_held_drew (S:=fun U:World=>Chg [w.heap.size] w0 U) (by kernel_rfl) (Chg.more hD (by simp)) (fun _=>?_)
 refine zU 0 rfl (by go_simp<;>with_reducible rfl) ?_
 try simp only[zP]
 refine zU 1 rfl (by go_simp<;>with_reducible rfl) ?_
 try simp only[zP]
 refine zU 2 rfl (by go_simp<;>with_reducible rfl) ?_
 try simp only[zP]
 refine zT 3 rfl (yields_row (by rfl) 46 (.tmp 7) rfl gj 81 rfl (arrF J.f) _ SF.out Tryz.underlying46 rfl infF) ?_
 try simp only[zP]
 refine zU 4 rfl (by go_simp<;>with_reducible rfl) ?_
 try simp only[zP]
 refine zU 5 rfl (by go_simp<;>with_reducible rfl) ?_
 try simp only[zP]
 refine zU 6 rfl (by go_simp<;>with_reducible rfl) ?_
 try simp only[zP]
 refine zU 7 rfl (by go_simp<;>with_reducible rfl) ?_
 try simp only[zP]
 refine zU 8 rfl (by go_simp<;>with_reducible rfl) ?_
 try simp only[zP]
 refine zU 9 rfl (by go_simp<;>with_reducible rfl) ?_
 try simp only[zP]
 refine zT 10 rfl (zc (by rfl) 31 (.tmp 14) rfl gj 65 rfl (.int .u32 J.p.t.seq) _ SS.out Tryz.underlying31 rfl) ?_
 try simp only[zP]
 refine zU 11 rfl (by go_simp<;>with_reducible rfl) ?_
 try simp only[zP]
 refine zU 12 rfl (by go_simp<;>with_reducible rfl) ?_
 try simp only[zP]
 refine zU 13 rfl (by go_simp<;>with_reducible rfl) ?_
 try simp only[zP]
 refine zT 14 rfl (zc (by rfl) 3 (.tmp 18) rfl gj 162 rfl (.int .i64 J.v) _ SV.out Tryz.underlying3 rfl) ?_
 try simp only[zP]
 refine zU 15 rfl (by go_simp<;>with_reducible rfl) ?_
 try simp only[zP]
 refine zU 16 rfl (by go_simp<;>with_reducible rfl) ?_
 try simp only[zP]
 refine zU 17 rfl (by go_simp<;>with_reducible rfl) ?_
 try simp only[zP]
 refine zU 18 rfl (by go_simp<;>with_reducible rfl) ?_
 try simp only[zP]
 refine zT 19 rfl (zc (by rfl) 3 (.tmp 23) rfl gj 152 rfl (.int .i64 J.e.passed) _ SP.out Tryz.underlying3 rfl) ?_
 try simp only[zP]
 refine zU 20 rfl (by go_simp<;>with_reducible rfl) ?_
 try simp only[zP]
 refine zR 21 rfl (fun K hK=>?_);go_simp
 refine (FU.out _ hD).mono ?_;rintro e w1 ⟨rfl,hw1⟩;have hD1:(fun U:World=>Chg [w.heap.size] w0 U) w1:=by rw[←hw1];exact Chg.more hD (by simp)
 have hZ1:Blk w1 w.heap.size 108 (arrN eN0):=by rw[←hw1];exact HZ.out.drew
 clear hw1;refine zB hK ?_;clear hK K
 try simp only[zP]
 refine zU 22 rfl (by go_simp<;>with_reducible rfl) ?_
 try simp only[zP]
 refine zR 23 rfl (fun K hK=>?_);refine step_store_blk (vs:=arrN (memE J kind (c.now+16))) rfl 108 (.tmp 4) (.tmp 27) rfl hZ1 rfl (by kernel_rfl) rfl infN rfl ?_;intro w2 hB2 hc2;have hC2:(fun U:World=>Chg [w.heap.size] w0 U) w2:=Chg.trans hD1 hc2;refine zB hK ?_;clear hK K
 try simp only[zP]
 refine wpAnyH_done (by kernel_rfl) ?_ _;refine NoPanic.normal ?_;have HC:=zH (HA.out.trans' hC2 (zN (by omega)));clear hC2 hc2 hD1 hZ1 hD SF SS SV SP FU HZ;go_wp2_with fail;refine bodyPost_ret (results_blk rfl rfl hB2 _ Tryz.underlying108 rfl infN) rfl ?_;exact⟨rfl,HC.out⟩
end Go.Proofs.YtgbndaiifbogmaaGreat
