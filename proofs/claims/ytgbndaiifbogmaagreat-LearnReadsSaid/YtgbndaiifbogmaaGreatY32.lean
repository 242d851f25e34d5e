/-
  Small laws and walks on the way to LearnReads: Ag5, Ag6, Ag7, Lw2. Conditions: each theorem names its own.
-/
import Derived.Test.YtgbndaiifbogmaaGreatY31
import Derived.Test.YtgbndaiifbogmaaGreatY06
import Derived.Test.YtgbndaiifbogmaaGreatY21
import Derived.Test.YtgbndaiifbogmaaGreatY07
import Derived.Test.YtgbndaiifbogmaaGreatY29
import Derived.Test.YtgbndaiifbogmaaGreatY28
set_option linter.unusedVariables false
set_option linter.unusedSimpArgs false
set_option maxRecDepth 100000
set_option maxHeartbeats 8000000
namespace Go.Proofs.YtgbndaiifbogmaaGreat
open Go.RowKit Go.Maps
@[reducible] def connEn (e:En) (c:CN):En:={e with st:=c.st,cf:=c.first,co:=c.own,cn:=c.next,cs:=c.sent,cg:=c.got,cm:=c.sum}
theorem n_conn (e:En) (c:CN):putAt (arrN e) 39 (enC c).toList=arrN (connEn e c):=by kernel_rfl
theorem n_conn2 (e:En) (c:CN):((arrN (connEn e c)).toList.drop 39).take (enC c).toList.length=(enC c).toList:=by kernel_rfl
theorem infC {c:CN}:(Tryz.prog.info? 106).map (·.size)=some (enC c).size:=by
 show _=some 7;kernel_rfl
theorem c_one (c:CN):(enC c).toList.all (·.oneCell')=true:=rfl
structure TakeP (f:Fl) (node seq own:Int) (y1 y2:By):Prop where
 hn:1≤node∧node≤65535
 hf:PortsF f
 e1:tcpP f.dst f.src (greetT f seq own) []=.ok y1
 ok:okB y1
 len:y1.length≤1000000
 e2:insS y1 [sidA 0 6 node]=.ok y2
 ow:own=hashA node seq f
theorem take_new {W w:World} {gj:Nat} {J:Jm} {node load:Int} {tb gp gt K:Nat} {c:TC} {S:List Nat} {pv dr:Array Value} {y1 y2:By} {own:Int} (hj:Blk w gj 154 (arrJ J)) (hg:AgR W w J.ga node load tb gp gt K c S pv dr) (hgj:gj∉S) (hK:K≤999)
  (hw:IntKind.i64.wrap (c.now+16)=c.now+16) (hp:TakeP J.f node J.p.t.seq own y1 y2) :
  Calls Tryz.prog 181 #[.pointer (some ⟨gj,0,none⟩)] w fun e w'=>(∃go cg vb ge,e=.returned (.agg #[.slice (some ⟨go,0,none⟩) 1 cg,.slice (some ⟨ge,0,none⟩) 1 1])∧w'.cell? ⟨go,0,none⟩=some vb∧OwY w' w.heap.size vb y2∧w.heap.size≤go)∧Chg S w w':=by
 have hZ:Blk (w.alloc (.cells #[.slice none 0 0,.slice none 0 0] 69)) w.heap.size 69 #[.slice none 0 0,.slice none 0 0]:=Blk.new _ _ _;have hA:=(Chg.refl [] w).alloc (.cells #[.slice none 0 0,.slice none 0 0] 69);have hjl:=hj.lt;have hSl:=hg.ct.lt
 have hag:∀U,Chg [] w U→AgR W U J.ga node load tb gp gt K c S pv dr:=fun U hc=>⟨hg.blk.chg hc (by simp),hg.ct.chg0 hc,hg.po.chg hc (by simp),hg.ty.chg hc (by simp),hg.ne,hg.lo⟩
 have HAG:=zH hag;have HJ:=zH (fun U (hc:Chg [] w U)=>hj.chg hc (by simp));have c65:=(HJ.out _ hA).at_ (j_seq J);have FM:=zH (fun U (hc:Chg [] w U)=>memory_any (HJ.out U hc) (HAG.out U hc) 2 hw);have HA:=zH hA;have HP:=zH hp;have HGA:=zH (And.intro hgj hg.ne.1);have HSL:=zH hSl;have hgal:=hg.blk.lt
 clear hj hg hA hw hp hag hgj hSl;go_enter Tryz.func181,Tryz.ntmps181
 go_wp2_with fail;refine (FM.out _ HA.out).mono ?_;rintro e w1 ⟨rfl,hc1⟩;have hZ1:=(hZ.chg hc1 (by simp)).alloc (.cells (arrN eN0) 108);have hE1:Blk (w1.alloc (.cells (arrN eN0) 108)) w1.heap.size 108 (arrN eN0):=Blk.new _ _ _;have HC1:=zH ((HA.out.trans hc1).alloc (.cells (arrN eN0) 108))
 have hz1:w.heap.size+1≤w1.heap.size:=by have:=hc1.size;simp at this;omega
 clear FM c65 hZ hc1;generalize hme:memE J 2 (c.now+16)=me at *;have HME:=zH hme;clear hme;go_upto_region 3 with (first
  |(refine zs (vs:=arrN me) rfl 108 (.tmp 4) (.tmp 12) rfl rfl hE1 rfl rfl rfl infN rfl ?_;intro w2 hE2 hc2)
  |fail)
 have hZ2:=hZ1.chg hc2 (by simp;omega);have HC2:=zH (HC1.out.trans' hc2 (zN (by omega)));obtain⟨g4,hg4⟩:∃g,g=w1.heap.size:=⟨_,rfl⟩;rw[←hg4]at hE2 hz1 ⊢;have HE2:=zH hE2;have HZ2:=zH hZ2;clear hg4 hZ1 hE1 hc2 HC1 hE2 hZ2
 have HJ2:=zH (fun U (hc:Chg [g4] w2 U)=>(HJ.out w2 HC2.out).chg hc (by simp;omega));have HG2:=zH (fun U (hc:Chg [g4] w2 U)=>(HAG.out w2 HC2.out).blk.chg hc (by simp;omega))
 have SA:Hid (∀U,Chg [g4] w2 U→U.cell? ⟨gj,0,none⟩=some (.pointer (some ⟨J.ga,0,none⟩))):=zH (fun U hc=>(HJ2.out U hc).at_ (j_a J));have SN:Hid (∀U,Chg [g4] w2 U→U.cell? ⟨J.ga,0,none⟩=some (.int .i64 node)):=zH (fun U hc=>(HG2.out U hc).cell 0)
 have SF:Hid (∀U,Chg [g4] w2 U→U.rangeAt gj 81 (arrF J.f).toList):=zH (fun U hc=>(HJ2.out U hc).part _ (jp_f J));have hD:(fun U:World=>Chg [g4] w2 U) w2.drew:=(Chg.refl _ w2).drew;have hE2d:=HE2.out.drew
 have FK:Hid (∀U,Calls Tryz.prog 226 #[.agg #[.int .u64 (IntKind.u64.wrap node),.int .u64 (IntKind.u64.wrap J.p.t.seq)],.agg (arrF J.f)] U fun e w'=>e=.returned (.int .u64 (hashF (IntKind.u64.wrap node) (IntKind.u64.wrap J.p.t.seq) J.f))∧Chg [] U w'):=zH (fun U=>kflow_any HP.out.hf.ok _ _ U)
 have HOW:Hid (IntKind.u32.wrap (hashF (IntKind.u64.wrap node) (IntKind.u64.wrap J.p.t.seq) J.f)=own):=zH HP.out.ow.symm;generalize hashF (IntKind.u64.wrap node) (IntKind.u64.wrap J.p.t.seq) J.f=hv at *;have hov:=HOW.out;have FS:=zH (fun U=>start_any J.p.t.seq own U)
 have HGT:Hid ({greetF (startF J.p.t.seq own) with sport:=J.f.dport,dport:=J.f.sport} = greetT J.f J.p.t.seq own):=zH rfl;generalize startF J.p.t.seq own=cn at *;refine wp_region_noPanic ?_;refine wp_region_held_drew (S:=fun U:World=>Chg [g4] w2 U) (by kernel_rfl) hD (fun _=>?_)
 refine zU 0 rfl (by go_simp<;>with_reducible rfl) ?_
 try simp only[zP]
 refine zU 1 rfl (by go_simp<;>with_reducible rfl) ?_
 try simp only[zP]
 refine zU 2 rfl (by go_simp<;>with_reducible rfl) ?_
 try simp only[zP]
 refine zU 3 rfl (by go_simp<;>with_reducible rfl) ?_
 try simp only[zP]
 refine zT 4 rfl (zc (by rfl) 57 (.tmp 16) rfl gj 0 rfl (.pointer (some ⟨J.ga,0,none⟩)) _ SA.out Tryz.underlying57 rfl) ?_
 try simp only[zP]
 refine zU 5 rfl (by go_simp<;>with_reducible rfl) ?_
 try simp only[zP]
 refine zU 6 rfl (by go_simp<;>with_reducible rfl) ?_
 try simp only[zP]
 refine zT 7 rfl (zc (by rfl) 3 (.tmp 19) rfl J.ga 0 rfl (.int .i64 node) _ SN.out Tryz.underlying3 rfl) ?_
 try simp only[zP]
 refine zU 8 rfl (by go_simp<;>with_reducible rfl) ?_
 try simp only[zP]
 refine zU 9 rfl (by go_simp<;>with_reducible rfl) ?_
 try simp only[zP]
 refine zU 10 rfl (by go_simp<;>with_reducible rfl) ?_
 try simp only[zP]
 refine zU 11 rfl (by go_simp<;>with_reducible rfl) ?_
 try simp only[zP]
 refine zU 12 rfl (by go_simp<;>with_reducible rfl) ?_
 try simp only[zP]
 refine zU 13 rfl (by go_simp<;>with_reducible rfl) ?_
 try simp only[zP]
 refine zU 14 rfl (by go_simp<;>with_reducible rfl) ?_
 try simp only[zP]
 refine zT 15 rfl (yields_row (by rfl) 46 (.tmp 27) rfl gj 81 rfl (arrF J.f) _ SF.out Tryz.underlying46 rfl infF) ?_
 try simp only[zP]
 refine zR 16 rfl (fun K hK=>?_);go_simp
 refine (FK.out _).mono ?_;rintro e w3 ⟨rfl,hc3⟩;have hD3:(fun U:World=>Chg [g4] w2 U) w3:=Chg.trans hD (hc3.more (by simp));have hE3:=hE2d.chg hc3 (by simp);refine zB hK ?_;clear hK K
 try simp only[zP]
 refine zU 17 rfl (by go_simp<;>with_reducible rfl) ?_
 try simp only[zP]
 refine zR 18 rfl (fun K hK=>?_);go_simp
 refine (FS.out _).mono ?_;rintro e w4' ⟨rfl,hc4⟩;have hD4:(fun U:World=>Chg [g4] w2 U) w4':=Chg.trans hD3 (hc4.more (by simp));have hE4:=hE3.chg hc4 (by simp);refine zB hK ?_;clear hK K
 try simp only[zP]
 refine zU 19 rfl (by go_simp<;>with_reducible rfl) ?_
 try simp only[zP]
 refine zR 20 rfl (fun K hK=>?_);refine step_store_part (vs:=enC cn) rfl 106 (.tmp 32) (.tmp 31) rfl hE4 39 rfl rfl (by show 39+7≤46;omega) infC (c_one cn) (n_conn me cn) ?_;intro w5 hE5 hc5;have hD5:(fun U:World=>Chg [g4] w2 U) w5:=Chg.trans hD4 hc5;refine zB hK ?_;clear hK K
 try simp only[zP]
 refine wpAnyH_done (by kernel_rfl) ?_ _;refine NoPanic.normal ?_;have HC5:=zH (HC2.out.trans' hD5 (zN (by omega)));have HZ5:=zH (HZ2.out.chg hD5 (by simp;omega));have HE5:=zH hE5;clear hD hD3 hD4 hD5 hc3 hc4 hc5 hE3 hE4 hE5 hE2d SA SN SF FK FS HE2 HZ2 HC2 HJ2 HG2 hov
 have HJ5:=zH (HJ.out w5 HC5.out);have HA5:=zH (HAG.out w5 HC5.out);have hg4S:g4∉S:=fun hm=>by have:=HSL.out g4 hm;omega
 have hwS:w.heap.size∉S:=fun hm=>by have:=HSL.out _ hm;omega
 have SA:Hid (∀U,Chg S w5 U→U.cell? ⟨gj,0,none⟩=some (.pointer (some ⟨J.ga,0,none⟩))):=zH (fun U hc=>(HJ5.out.chg hc HGA.out.1).at_ (j_a J));have ST:Hid (∀U,Chg S w5 U→U.cell? ⟨J.ga,2,none⟩=some (.pointer (some ⟨tb,0,none⟩))):=zH (fun U hc=>(HA5.out.blk.chg hc HGA.out.2).cell 2)
 have SE:Hid (∀U,Chg S w5 U→U.rangeAt g4 0 (arrN (connEn me cn)).toList):=zH (fun U hc=>(HE5.out.chg hc hg4S).rangeQ);have hD:(fun U:World=>Chg S w5 U) w5.drew:=(Chg.refl _ w5).drew;have hfl:okF (connEn me cn).fl:=by
  rw[←HME.out];exact HP.out.hf.ok
 have FP:=zH (cput_any (HA5.out.ct.chg0 ((Chg.refl [] w5).drew)) hK hfl);go_upto_region 4 with fail
 refine wp_region_noPanic ?_;refine wp_region_held_drew (S:=fun U:World=>Chg S w5 U) (by kernel_rfl) hD (fun _=>?_);refine zU 0 rfl (by go_simp<;>with_reducible rfl) ?_
 try simp only[zP]
 refine zU 1 rfl (by go_simp<;>with_reducible rfl) ?_
 try simp only[zP]
 refine zU 2 rfl (by go_simp<;>with_reducible rfl) ?_
 try simp only[zP]
 refine zT 3 rfl (zc (by rfl) 57 (.tmp 35) rfl gj 0 rfl (.pointer (some ⟨J.ga,0,none⟩)) _ SA.out Tryz.underlying57 rfl) ?_
 try simp only[zP]
 refine zU 4 rfl (by go_simp<;>with_reducible rfl) ?_
 try simp only[zP]
 refine zU 5 rfl (by go_simp<;>with_reducible rfl) ?_
 try simp only[zP]
 refine zT 6 rfl (zc (by rfl) 109 (.tmp 38) rfl J.ga 2 rfl (.pointer (some ⟨tb,0,none⟩)) _ ST.out Tryz.underlying109 rfl) ?_
 try simp only[zP]
 refine zT 7 rfl (yields_row (by rfl) 108 (.tmp 4) rfl g4 0 rfl (arrN (connEn me cn)) _ SE.out Tryz.underlying108 rfl infN) ?_
 try simp only[zP]
 refine zR 8 rfl (fun K hK=>?_);go_simp
 refine FP.out.mono ?_;rintro e w6 ⟨rfl,S',hct6,hcS,hnew6⟩;have hD6:(fun U:World=>Chg S w5 U) w6:=Chg.trans hD hcS;refine zB hK ?_;clear hK K
 try simp only[zP]
 refine wpAnyH_done (by kernel_rfl) ?_ _;refine NoPanic.normal ?_;have HC6:Hid (Chg S w w6):=zH ((HC5.out.more (by simp)).trans hD6);have HZ6:=zH (HZ5.out.chg hD6 hwS);have hE6:=HE5.out.chg hD6 hg4S;have HJ6:=zH (HJ5.out.chg hD6 HGA.out.1);have HG6:=zH (HA5.out.blk.chg hD6 HGA.out.2)
 have FG:=zH (fun U=>greet_any cn U);have hz6:=HC6.out.size;clear hD hD6 hcS hnew6 hct6 FP SA ST SE HJ5 HA5 HZ5 HE5 HC5 hfl HME;go_wp2_with (first
  |(refine wpList_load_part (vs:=enC cn) rfl 106 (.tmp 44) rfl hE6 39 rfl _ Tryz.underlying106 rfl infC (n_conn2 me cn) ?_)
  |fail)
 refine (FG.out _).mono ?_;rintro e w7 ⟨rfl,hc7⟩;have hA7:=hc7.alloc (.cells (arrTc (greetF cn) noV noV) 34);have hl7:Blk (w7.alloc (.cells (arrTc (greetF cn) noV noV) 34)) w7.heap.size 34 (arrTc (greetF cn) noV noV):=Blk.new _ _ _
 obtain⟨hok,hcan⟩:=greetT_ok (f:=J.f) HP.out.hf (seq:=J.p.t.seq) (own:=own) (by rw[←HOW.out,IntKind.wrap_u32'];omega);have hnum:numsT {greetF cn with sport:=J.f.dport,dport:=J.f.sport} = true:=by rw[HGT.out];exact (canT_nums hcan).1
 have hokw:okW (greetF cn):=by
  have h1:=hok.seq;have h2:=hok.ack;rw[←HGT.out]at h1 h2;exact⟨h1,h2⟩
 have FT:=zH (tell_one (HJ6.out.chg hA7 (by simp)) (HG6.out.chg hA7 (by simp)) HP.out.hn HP.out.hf.ok.1 HP.out.hf.ok.2.2.1 hl7 hnum hokw (by rw[HGT.out];exact HP.out.e1) HP.out.ok HP.out.len HP.out.e2);have HC7:=zH (HC6.out.trans (hA7.more (by simp)));have HZ7:=zH (HZ6.out.chg hA7 (by simp))
 have HJ7:=zH (HJ6.out.chg hA7 (by simp));have HG7:=zH (HG6.out.chg hA7 (by simp));have HZS:Hid (w.heap.size≤(w7.alloc (.cells (arrTc (greetF cn) noV noV) 34)).heap.size):=zH HC7.out.size;clear hA7 hl7 hc7 hok hcan hnum hokw HC6 HZ6 HJ6 HG6 hE6 HGT;unfold enT;go_wp2_with fail;refine FT.out.mono ?_
 rintro e w8 ⟨⟨go8,c8,vb8,rfl,hk8,ho8,hg8⟩,hc8⟩;have hJ8:=HJ7.out.chg hc8 (by simp);have hG8:=HG7.out.chg hc8 (by simp);have FD:=zH (done_any hJ8 hG8 5 0 (A:=some ⟨go8,0,none⟩) (n:=1) (cp:=c8));have HC8:=zH (HC7.out.trans (hc8.more (by simp)));have HZ8:=zH (HZ7.out.chg hc8 (by simp))
 have HO8:=zH (And.intro hk8 (And.intro ho8 hg8));have hWZ:=HZ7.out.lt;clear FT hJ8 hG8 hc8 hk8 ho8 hg8 HC7 HZ7 HJ7 HG7;go_wp2_with fail;refine FD.out.mono ?_;rintro e w9 ⟨⟨ge9,rfl,hE9⟩,hc9⟩;have hZ9:=HZ8.out.chg hc9 (by simp);have HC9:=zH (HC8.out.trans (hc9.more (by simp)))
 obtain⟨hk8,ho8,hg8⟩:=HO8.out;have HK9:=zH (hc9.cell hk8 (by simp));have HO9:=zH (own_chg ho8 hc9 (by simp));have hwg:w.heap.size<go8:=Nat.lt_of_lt_of_le hWZ hg8;clear hk8 ho8 hg8 HO8 hc9 HC8 HZ8 FD;go_wp2_with (first
  |(refine zs (vs:=#[.slice (some ⟨go8,0,none⟩) 1 c8,.slice (some ⟨ge9,0,none⟩) 1 1]) rfl 69 (.tmp 2) (.tmp 49) rfl rfl hZ9 rfl rfl rfl (by kernel_rfl) rfl ?_;intro wX hBX hcX)
  |fail)
 refine bodyPost_ret (results_blk rfl rfl hBX _ Tryz.underlying69 rfl (by kernel_rfl)) rfl ?_
 exact⟨⟨go8,c8,vb8,ge9,rfl,hcX.cell HK9.out (by simp;omega),ownsRow_less (own_chg HO9.out hcX (fun y hy hm=>by have h1:=(own_lt HO9.out y hy).1;have h2:=List.mem_singleton.1 hm;omega)) HZS.out,Nat.le_of_lt hwg⟩,HC9.out.trans' hcX (by intro x hx;simp at hx;subst hx;right;exact Nat.le_refl _)⟩
end Go.Proofs.YtgbndaiifbogmaaGreat
namespace Go.Proofs.YtgbndaiifbogmaaGreat
open Go.RowKit Go.Maps
theorem way3_any (w:World):Calls Tryz.prog 71 #[.int .i64 3] w fun e w'=>e=.returned (.func (Fn.func 123) #[] #[])∧w=w':=by
 go_enter Tryz.func71,Tryz.ntmps71
 go_wp2_with fail;go_ret
 exact⟨rfl,rfl⟩
def OneR (w:World) (e:Ending) (w':World) (y:By):Prop:=∃go cg vb ge,e=.returned (.agg #[.slice (some ⟨go,0,none⟩) 1 cg,.slice (some ⟨ge,0,none⟩) 1 1])∧w'.cell? ⟨go,0,none⟩=some vb∧OwY w' w.heap.size vb y∧w.heap.size≤go
theorem OneR.less {w0 w:World} {e:Ending} {w':World} {y:By} (h:OneR w e w' y) (hz:w0.heap.size≤w.heap.size):OneR w0 e w' y:=by
 obtain⟨go,cg,vb,ge,h1,h2,h3,h4⟩:=h;exact⟨go,cg,vb,ge,h1,h2,ownsRow_less h3 hz,by omega⟩
theorem OneR.keep {w w1 w2:World} {g:Nat} {go cg:Nat} {vb:Value} {ge:Nat} {y:By} (hk:w1.cell? ⟨go,0,none⟩=some vb) (ho:OwY w1 w.heap.size vb y) (hg:w.heap.size≤go) (hc:Chg [g] w1 w2) (hlt:g<w.heap.size) :
  OneR w (.returned (.agg #[.slice (some ⟨go,0,none⟩) 1 cg,.slice (some ⟨ge,0,none⟩) 1 1])) w2 y:=
 ⟨go,cg,vb,ge,rfl,hc.cell hk (by simp;omega),own_chg ho hc (fun z hz hm=>by have h1:=(own_lt ho z hz).1;have h2:=List.mem_singleton.1 hm;omega),hg⟩
@[reducible] def arrRe (go cg ge:Nat):Array Value:=#[.slice (some ⟨go,0,none⟩) 1 cg,.slice (some ⟨ge,0,none⟩) 1 1]
@[reducible] def arrR0:Array Value:=#[.slice none 0 0,.slice none 0 0]
theorem infRe {go cg ge:Nat}:(Tryz.prog.info? 69).map (·.size)=some (arrRe go cg ge).size:=by
 show _=some 2;kernel_rfl
@[reducible] def fnTake:Value:=.func (Fn.func 181) #[] #[]
theorem CtS.chgG {W w w':World} {tb K:Nat} {c:TC} {S:List Nat} {g:Nat} (h:CtS W w tb K c S) (hc:Chg [g] w w') (hg:g∉S) (hW:W.heap.size≤g):CtS W w' tb K c S:=by
 obtain⟨⟨m1,m2,m3,q,nn,vs,sq,its,h1,h2,r⟩,h3,h4,h5⟩:=h;exact⟨⟨m1,m2,m3,q,nn,vs,sq,its,h1.chg hc (fun x hx hm=>by rw[←h2]at hx;have e:=List.mem_singleton.1 hm;subst e;exact hg hx),h2,r⟩,h3,h4.trans' hc (fun x hx=>by have e:=List.mem_singleton.1 hx;subst e;exact .inr hW),h5⟩
theorem AgR.chgG {W w w':World} {ga:Nat} {node load:Int} {tb gp gt K:Nat} {c:TC} {S:List Nat} {pv dr:Array Value} {g:Nat} (h:AgR W w ga node load tb gp gt K c S pv dr) (hc:Chg [g] w w') (hg:g∉S∧g≠ga∧g≠gp∧g≠gt) (hW:W.heap.size≤g):AgR W w' ga node load tb gp gt K c S pv dr:=
 ⟨h.blk.chg hc (by simp;exact fun e=>hg.2.1 e.symm),h.ct.chgG hc hg.1 hW,h.po.chg hc (by simp;exact fun e=>hg.2.2.1 e.symm),h.ty.chg hc (by simp;exact fun e=>hg.2.2.2 e.symm),h.ne,h.lo⟩
theorem AgR.chg0 {W w w':World} {ga:Nat} {node load:Int} {tb gp gt K:Nat} {c:TC} {S:List Nat} {pv dr:Array Value} (h:AgR W w ga node load tb gp gt K c S pv dr) (hc:Chg [] w w'):AgR W w' ga node load tb gp gt K c S pv dr:=
 ⟨h.blk.chg hc (by simp),h.ct.chg0 hc,h.po.chg hc (by simp),h.ty.chg hc (by simp),h.ne,h.lo⟩
theorem first_new {W w:World} {gj:Nat} {J:Jm} {node load:Int} {tb gp gt K:Nat} {c:TC} {S:List Nat} {pv dr:Array Value} {y1 y2:By} {own:Int} (hj:Blk w gj 154 (arrJ J)) (hg:AgR W w J.ga node load tb gp gt K c S pv dr) (hgj:gj∉S∧gj≠J.ga∧gj≠gp∧gj≠gt) (hgW:W.heap.size≤gj) (hK:K≤999)
  (hw:IntKind.i64.wrap (c.now+16)=c.now+16) (hp:TakeP J.f node J.p.t.seq own y1 y2) (hi:J.is=false) (hf:firstF J.p.t.flags=true) (hr:(c.l.length:Int)<c.n) (hv:1≤J.r∧J.r≤4294967295) :
  Calls Tryz.prog 175 #[.pointer (some ⟨gj,0,none⟩),fnTake] w fun e w'=>OneR w e w' y2∧Chg (gj::S) w w':=by
 have hZ:Blk (w.alloc (.cells arrR0 69)) w.heap.size 69 arrR0:=Blk.new _ _ _;have hA:=(Chg.refl [] w).alloc (.cells arrR0 69);have hjl:=hj.lt;have hSl:=hg.ct.lt;have hJ0:=hj.chg hA (by simp);have c80:=hJ0.at_ (j_arg J);have hwr:IntKind.i64.wrap J.r=J.r:=by rw[IntKind.wrap_i64];omega
 have HAG0:=zH (hg.chg0 hA);have HA:=zH hA;have HP:=zH hp;have HGJ:=zH hgj;have HSL:=zH hSl;clear hj hg hA hp hgj hSl;go_enter Tryz.func175,Tryz.ntmps175
 go_upto_region 2 with (first
  |(refine wpList_store_cell (i:=162) (v:=.int .i64 J.r) rfl 3 (.tmp 14) (.tmp 12) rfl rfl hJ0 rfl rfl rfl (by rw[j_size];omega) (by kernel_rfl) rfl ?_;intro w1 hJ1 hc1)
  |fail)
 rw[js_v]at hJ1;have HA1:=zH (HAG0.out.chgG hc1 HGJ.out hgW);have hZ1:=hZ.chg hc1 (by simp;omega);have HC1:Hid (Chg [gj] w w1):=zH ((HA.out.more (by simp)).trans hc1);have HJ1:=zH hJ1;have HZ1:=zH hZ1;have FM:=zH (may_new (J:={J with v:=J.r}) hJ1 HA1.out hi hf (show J.r≠0 by omega) hr)
 have FO:=zH (fun U (hc:Chg [] w1 U)=>own_any (J:={J with v:=J.r}) (HJ1.out.chg hc (by simp)) hi);have FT:=zH (fun U (hc:Chg [] w1 U)=>take_new (J:={J with v:=J.r}) (HJ1.out.chg hc (by simp)) (HA1.out.chg0 hc) HGJ.out.1 hK hw HP.out);clear hZ hJ0 c80 hc1 HA HAG0 hJ1 hZ1 hr hf hi hw hv hwr
 go_wp2_with fail;refine FM.out.mono ?_;rintro e w2 ⟨rfl,hc2⟩;have HC2:=zH hc2;clear FM hc2;go_wp2_with fail;refine (FO.out _ HC2.out).mono ?_;rintro e w3 ⟨rfl,hw3⟩;subst hw3;clear FO;go_wp2_with fail;refine (FT.out _ HC2.out).mono ?_;rintro e w4' ⟨⟨go,cg,vb,ge,rfl,hk,ho,hgo⟩,hc4⟩
 have hwS:w.heap.size∉S:=fun hm=>by have:=HSL.out _ hm;omega
 have hZ4:=(HZ1.out.chg HC2.out (by simp)).chg hc4 hwS;have hz2:w.heap.size<w2.heap.size:=(HZ1.out.chg HC2.out (by simp)).lt;have HC4:Hid (Chg (gj::S) w w4'):=zH (((HC1.out.more (by simp)).trans (HC2.out.more (by simp))).trans (hc4.more (fun x hx=>by simp[hx])))
 have HK:=zH (And.intro hk (And.intro ho hgo));clear FT hk ho hgo hc4 HC1 HJ1 HZ1 HA1 HC2 hwS;go_wp2_with (first
  |(refine zs (vs:=arrRe go cg ge) rfl 69 (.tmp 4) (.tmp 28) rfl rfl hZ4 rfl rfl rfl infRe rfl ?_;intro wX hBX hcX)
  |fail)
 refine bodyPost_ret (results_blk rfl rfl hBX _ Tryz.underlying69 rfl infRe) rfl ?_;exact⟨(OneR.keep HK.out.1 HK.out.2.1 HK.out.2.2 hcX hz2).less (Nat.le_of_lt hz2),HC4.out.trans' hcX (by intro x hx;simp at hx;subst hx;right;exact Nat.le_refl _)⟩
theorem last_new {W w:World} {gj:Nat} {J:Jm} {node load:Int} {tb gp gt K:Nat} {c:TC} {S:List Nat} {pv dr:Array Value} {y1 y2:By} {own:Int} (hj:Blk w gj 154 (arrJ J)) (hg:AgR W w J.ga node load tb gp gt K c S pv dr) (hgj:gj∉S∧gj≠J.ga∧gj≠gp∧gj≠gt) (hgW:W.heap.size≤gj) (hK:K≤999)
  (hw:IntKind.i64.wrap (c.now+16)=c.now+16) (hp:TakeP J.f node J.p.t.seq own y1 y2) (hi:J.is=false) (hf:firstF J.p.t.flags=true) (hr:(c.l.length:Int)<c.n) (hv:1≤J.r∧J.r≤4294967295) :
  Calls Tryz.prog 123 #[.pointer (some ⟨gj,0,none⟩)] w fun e w'=>OneR w e w' y2∧Chg (gj::S) w w':=by
 have hZ:Blk (w.alloc (.cells arrR0 69)) w.heap.size 69 arrR0:=Blk.new _ _ _;have hA:=(Chg.refl [] w).alloc (.cells arrR0 69);have FF:=zH (first_new (hj.chg hA (by simp)) (hg.chg0 hA) hgj hgW hK hw hp hi hf hr hv);have hjl:=hj.lt;have hwS:w.heap.size∉gj::S:=fun hm=>by
  rcases List.mem_cons.1 hm with e|hm
  ·omega
  ·have:=hg.ct.lt _ hm;omega
 have HWS:=zH hwS;have HA:=zH hA;clear hj hg hgj hgW hK hw hp hi hf hr hv hA hwS;go_enter Tryz.func123,Tryz.ntmps123
 go_wp2_with fail;refine FF.out.mono ?_;rintro e w1 ⟨⟨go,cg,vb,ge,rfl,hk,ho,hgo⟩,hc1⟩;have hZ1:=hZ.chg hc1 HWS.out;have HC1:Hid (Chg (gj::S) w w1):=zH ((HA.out.more (by simp)).trans hc1);have HK:=zH (And.intro hk (And.intro ho hgo));clear FF hk ho hgo hc1 hZ HA;go_wp2_with (first
  |(refine zs (vs:=arrRe go cg ge) rfl 69 (.tmp 2) (.tmp 4) rfl rfl hZ1 rfl rfl rfl infRe rfl ?_;intro wX hBX hcX)
  |fail)
 refine bodyPost_ret (results_blk rfl rfl hBX _ Tryz.underlying69 rfl infRe) rfl ?_;exact⟨(OneR.keep HK.out.1 HK.out.2.1 HK.out.2.2 hcX (by simp)).less (by simp),HC1.out.trans' hcX (by intro x hx;simp at hx;subst hx;right;exact Nat.le_refl _)⟩
end Go.Proofs.YtgbndaiifbogmaaGreat
namespace Go.Proofs.YtgbndaiifbogmaaGreat
open Go.RowKit Go.Maps
@[reducible] def fnLast:Value:=.func (Fn.func 123) #[] #[]
theorem handle_new {W w:World} {ga:Nat} {node load:Int} {tb gp gt:Nat} {S:List Nat} {pv dr:Array Value} {v:Value} {l:By} {hd:Hd} {s:Sr} {fin:Ad} {t:Tp} {body:By} {r own:Int} {y1 y2:By}
  (hg:AgR W w ga node load tb gp gt 0 ⟨1,0,0,[]⟩ S pv dr) (h:SlY w 0 v l) (hb:okB l) (hl:l.length≤1000000) (hm:parseS l=.ok ⟨hd,some s,fin,.tcp t,body⟩) (hdst:hd.dst=sidA node 3 r) (hr:1≤r∧r≤4294967295) (hleft:1≤s.left)
  (hfirst:firstF t.t.flags=true) (hp:TakeP ⟨hd.src,t.t.sport,fin,t.t.dport⟩ node t.t.seq own y1 y2) :
  Calls Tryz.prog 21 #[.pointer (some ⟨ga,0,none⟩),v] w fun e w'=>OneR w e w' y2∧Chg S w w':=by
 obtain⟨A,c,rfl⟩:=h.form;have hZ:Blk (w.alloc (.cells arrR0 69)) w.heap.size 69 arrR0:=Blk.new _ _ _;have hA:=(Chg.refl [] w).alloc (.cells arrR0 69);have FI:=zH (ais_any (hg.blk.chg hA (by simp)));have HS:=zH (fun U (hc:Chg [] w U)=>h.chg0 hc);have HAG:=zH hg;have HSL:=zH hg.ct.lt
 have HWW:=zH hg.ct.chg.size;have FP:=zH (fun U (hc:Chg [] w U)=>pparse_any (h.chg0 hc) hb hl);rw[hm]at FP;have HP:=zH hp;have hgal:=hg.blk.lt;have hgpl:=hg.po.lt;have hgtl:=hg.ty.lt;have HA:=zH hA;have HDST:=zH hdst;have HF:=zH (And.intro hr (And.intro hleft hfirst))
 clear hg h hb hm hp hA hdst hr hleft hfirst;generalize hw0:w.alloc (.cells arrR0 69)=w0 at *;have HW0:=zH hw0;have HZ:=zH hZ;clear hw0 hZ;go_enter Tryz.func21,Tryz.ntmps21
 go_upto_region 1 with fail
 rw[HW0.out];go_wp2_with fail;refine FI.out.mono ?_;rintro e w1 ⟨rfl,hw1⟩;subst hw1;clear FI HW0;go_upto_region 4 with fail
 refine Eq.mpr (congrArg (fun z=>Code.wp _ _ _ _ (w0.alloc (.cells z 154))) (?_:_=arrJ ⟨ga,.slice A l.length c,pm0,0,0,0,eN0.fl,eN0,false,0⟩)) ?_
 ·kernel_rfl
 obtain⟨J,hJd⟩:∃J:Jm,J=⟨ga,.slice A l.length c,pm0,0,0,0,eN0.fl,eN0,false,0⟩:=⟨_,rfl⟩;rw[←hJd];have hjga:J.ga=ga:=by rw[hJd]
 have hjv:J.is=false∧J.e=eN0∧J.v=0:=by rw[hJd];exact⟨rfl,rfl,rfl⟩
 have HJE:=zH (And.intro hjga hjv);clear hJd hjga hjv;have hj:Blk (w0.alloc (.cells (arrJ J) 154)) w0.heap.size 154 (arrJ J):=Blk.new _ _ _;have hAj:=HA.out.alloc (.cells (arrJ J) 154);have hZj:=HZ.out.alloc (.cells (arrJ J) 154);have hzj:w.heap.size<w0.heap.size:=HZ.out.lt
 obtain⟨gj,hgj⟩:∃g,g=w0.heap.size:=⟨_,rfl⟩;obtain⟨w1,hw1⟩:∃u,u=w0.alloc (.cells (arrJ J) 154):=⟨_,rfl⟩;rw[←hw1,←hgj]at hj;rw[←hw1]at hAj hZj;rw[←hgj]at hzj;rw[←hw1];rw[←hgj];clear hw1 hgj HA HZ;have HA1:=zH hAj;clear hAj;go_wp2_with fail;refine (FP.out _ HA1.out).mono ?_
 rintro e w2 ⟨⟨p,rfl,hpk⟩,hc2⟩;have hj2:=hj.chg hc2 (by simp);have hZ2:=hZj.chg hc2 (by simp);have HA2:=zH (HA1.out.trans hc2);have hjl2:=hj2.lt;have hjA:=hj2.alloc (.cells (arrPk pm0) 38);have hZA:=hZ2.alloc (.cells (arrPk pm0) 38)
 have hP0:Blk (w2.alloc (.cells (arrPk pm0) 38)) w2.heap.size 38 (arrPk pm0):=Blk.new _ _ _;have HAA:=zH (HA2.out.alloc (.cells (arrPk pm0) 38));have hw2:=HA2.out.size;have hone:=hpk.one;have hhd:p.h=hd:=hpk.head;have hrt:p.rt=true:=hpk.rt;have hfin:p.f=fin:=hpk.fin;have hsr:p.s=s:=hpk.srh.1
 have hup:p.k=6∧p.t=t.t:=⟨hpk.up.1,hpk.up.2.1⟩;have HPE:=zH (And.intro hhd (And.intro hrt (And.intro hfin (And.intro hsr hup))));have HONE:=zH hone;clear hhd hrt hfin hsr hup hone;clear FP hj hZj hc2 HA1 hpk HA2 hj2 hZ2;go_upto_region 7 with (first
  |(refine zs (vs:=arrPk p) rfl 38 (.tmp 6) (.tmp 22) rfl rfl hP0 rfl rfl rfl infPk HONE.out ?_;intro w3 hP3 hc3)
  |fail)
 have hj3:=hjA.chg hc3 (by simp;omega);have hZ3:=hZA.chg hc3 (by simp;omega);have HA3:=zH (HAA.out.trans' hc3 (zN (by omega)));obtain⟨g6,hg6⟩:∃g,g=w2.heap.size:=⟨_,rfl⟩;rw[←hg6]at hP3 hjl2 ⊢;clear hg6 hjA hZA hP0 HAA hc3
 have HSP:Hid (∀U,Calls Tryz.prog 47 #[.agg (arrA p.h.dst)] U fun e w'=>e=.returned (.tuple #[.agg (arrSi node 3 r),.bool true])∧Chg [] U w'):=zH (fun U=>by
  rw[HPE.out.1,HDST.out];have:=ssplit_any (sidA_ok node 3 r) U;rw[split_sid (by have:=HP.out.hn;omega) (by omega) (by have:=HF.out.1;omega)]at this;exact this)
 go_wp2_with (first
  |(refine wpList_load_part (vs:=arrA p.h.dst) rfl 24 (.tmp 32) rfl hP3 21 rfl _ Tryz.underlying24 rfl infAd (pk_dst p) ?_)
  |fail)
 refine (HSP.out _).mono ?_;rintro e w4' ⟨rfl,hc4⟩;have hj4:=(hj3.chg hc4 (by simp)).alloc (.cells (arrSi 0 0 0) 63);have hZ4:=(hZ3.chg hc4 (by simp)).alloc (.cells (arrSi 0 0 0) 63);have hP4:=(hP3.chg hc4 (by simp)).alloc (.cells (arrSi 0 0 0) 63)
 have hS0:Blk (w4'.alloc (.cells (arrSi 0 0 0) 63)) w4'.heap.size 63 (arrSi 0 0 0):=Blk.new _ _ _;have HA4:=zH ((HA3.out.trans hc4).alloc (.cells (arrSi 0 0 0) 63));have hpl4:=(hP3.chg hc4 (by simp)).lt;have hw4:=(HA3.out.trans hc4).size;clear HSP hj3 hZ3 hP3 hc4 HA3;go_upto_region 8 with (first
  |(refine zs (vs:=arrSi node 3 r) rfl 63 (.tmp 8) (.tmp 35) rfl rfl hS0 rfl rfl rfl infSi rfl ?_;intro w5 hS5 hc5)
  |fail)
 have hj5:=hj4.chg hc5 (by simp;omega);have hZ5:=hZ4.chg hc5 (by simp;omega);have hP5:=hP4.chg hc5 (by simp;omega);have HA5:=zH (HA4.out.trans' hc5 (zN (by omega)));obtain⟨g8,hg8⟩:∃g,g=w4'.heap.size:=⟨_,rfl⟩;rw[←hg8]at hS5 hpl4 ⊢;clear hg8 hj4 hZ4 hP4 hS0 HA4 hc5
 have HP5:=zH (fun U (hc:Chg [gj] w5 U)=>hP5.chg hc (by simp;omega));have HS5:=zH (fun U (hc:Chg [gj] w5 U)=>hS5.chg hc (by simp;omega));have SP:Hid (∀U,Chg [gj] w5 U→U.rangeAt g6 0 (arrPk p).toList):=zH (fun U hc=>(HP5.out U hc).rangeQ)
 have SS:Hid (∀U,Chg [gj] w5 U→U.rangeAt g8 0 (arrSi node 3 r).toList):=zH (fun U hc=>(HS5.out U hc).rangeQ);have hD:(fun U:World=>Chg [gj] w5 U) w5.drew:=(Chg.refl _ w5).drew;have hjd:=hj5.drew;have HZ5:=zH (fun U (hc:Chg [gj] w5 U)=>hZ5.chg hc (by simp;omega));clear hP5 hS5 hZ5 hj5
 refine wp_region_noPanic ?_;refine wp_region_held_drew (S:=fun U:World=>Chg [gj] w5 U) (by kernel_rfl) hD (fun _=>?_);refine zU 0 rfl (by go_simp<;>with_reducible rfl) ?_
 try simp only[zP]
 refine zU 1 rfl (by go_simp<;>with_reducible rfl) ?_
 try simp only[zP]
 refine zT 2 rfl (yields_row (by rfl) 38 (.tmp 6) rfl g6 0 rfl (arrPk p) _ SP.out Tryz.underlying38 rfl infPk) ?_
 try simp only[zP]
 refine zT 3 rfl (yields_row (by rfl) 63 (.tmp 8) rfl g8 0 rfl (arrSi node 3 r) _ SS.out Tryz.underlying63 rfl infSi) ?_
 try simp only[zP]
 refine zU 4 rfl (by go_simp<;>with_reducible rfl) ?_
 try simp only[zP]
 refine zU 5 rfl (by go_simp<;>with_reducible rfl) ?_
 try simp only[zP]
 refine zR 6 rfl (fun K hK=>?_);refine step_store_part (vs:=arrPk p) rfl 38 (.tmp 42) (.tmp 39) rfl hjd 2 rfl rfl (by rw[j_size];show 2+76≤163;omega) infPk HONE.out (js_p J p) ?_;intro w6 hj6 hc6;have hD6:(fun U:World=>Chg [gj] w5 U) w6:=Chg.trans hD hc6;refine zB hK ?_;clear hK K
 try simp only[zP]
 refine zU 7 rfl (by go_simp<;>with_reducible rfl) ?_
 try simp only[zP]
 refine zU 8 rfl (by go_simp<;>with_reducible rfl) ?_
 try simp only[zP]
 refine zR 9 rfl (fun K hK=>?_);refine step_store_part (vs:=arrSi node 3 r) rfl 63 (.tmp 44) (.tmp 40) rfl hj6 78 rfl rfl (by rw[j_size];show 78+3≤163;omega) infSi rfl (js_s {J with p:=p} node 3 r) ?_;intro w7 hj7 hc7;have hD7:(fun U:World=>Chg [gj] w5 U) w7:=Chg.trans hD6 hc7;refine zB hK ?_
 clear hK K
 try simp only[zP]
 refine wpAnyH_done (by kernel_rfl) ?_ _;refine NoPanic.normal ?_;have hP7:=HP5.out w7 hD7;have hS7:=HS5.out w7 hD7;have HZ7:=zH (HZ5.out w7 hD7);have HA7:=zH (HA5.out.trans' hD7 (zN (by omega)));have HJ7:=zH hj7;have HP7:=zH hP7;have HS7:=zH hS7;have HG7:=zH (HAG.out.chg0 HA7.out)
 have c81:w7.cell? ⟨g8,1,none⟩=some (.int .i64 3):=hS7.cell 1;have FW:=zH way3_any;clear hD hD6 hD7 hc6 hc7 hj6 hj7 hjd SP SS HP5 HS5 HZ5 HA5 hP7 hS7;go_wp2_with fail;refine (FW.out _).mono ?_;rintro e w8 ⟨rfl,hw8⟩;subst hw8
 have S0:Hid (∀U,Chg [] w7 U→U.cell? ⟨g8,0,none⟩=some (.int .i64 node)):=zH (fun U hc=>(HS7.out.chg hc (by simp)).cell 0);have SN:Hid (∀U,Chg [] w7 U→U.cell? ⟨ga,0,none⟩=some (.int .i64 node)):=zH (fun U hc=>(HG7.out.blk.chg hc (by simp)).cell 0);have hself:(node !=node)=false:=by simp
 clear FW c81;go_upto_region 10 with fail
 refine wp_region_chg (by kernel_rfl) (by kernel_rfl) ?_
 repeat (first
  |((with_reducible refine wpQuiet_cellC 3 (.tmp 52) ?_ ?_ g8 0 ?_ (.int .i64 node) _ S0.out Tryz.underlying3 ?_ ?_);(focus rfl);(focus rfl);(focus rfl);(focus rfl);(try simp only[zP]))
  |((with_reducible refine wpQuiet_cellC 3 (.tmp 56) ?_ ?_ ga 0 ?_ (.int .i64 node) _ SN.out Tryz.underlying3 ?_ ?_);(focus rfl);(focus rfl);(focus rfl);(focus rfl);(try simp only[zP]))
  |((with_reducible refine wpQuiet_pure (v:=?_) ?_ (fun w=>?_) ?_);rotate_left;(focus rfl);(focus (go_simp<;>with_reducible rfl));(try simp only[zP]);(try simp only[hself])))
 refine wpQuiet_nil ?_;intro wa hca;have HAa:=zH (HA7.out.trans hca);have hPa:=HP7.out.chg hca (by simp);have hSa:=HS7.out.chg hca (by simp);have hja:=HJ7.out.chg hca (by simp);have HZa:=zH (HZ7.out.chg hca (by simp));have HGa:=zH (HG7.out.chg0 hca);clear S0 SN hself hca HA7 HP7 HS7 HJ7 HZ7 HG7
 have c81:wa.cell? ⟨g8,1,none⟩=some (.int .i64 3):=hSa.cell 1;have k37:wa.cell? ⟨g6,37,none⟩=some (.bool true):=by
  have:=hPa.cell 37;rw[show (arrPk p)[37]?=some (.bool p.rt) from rfl,HPE.out.2.1]at this;exact this
 have k39:wa.cell? ⟨g6,39,none⟩=some (.int .i64 s.left):=by
  have:=hPa.cell 39;rw[show (arrPk p)[39]?=some (.int .i64 p.s.left) from rfl,HPE.out.2.2.2.1]at this;exact this
 have k60:wa.cell? ⟨g6,60,none⟩=some (.int .i64 6):=by
  have:=hPa.cell 60;rw[show (arrPk p)[60]?=some (.int .i64 p.k) from rfl,HPE.out.2.2.2.2.1]at this;exact this
 have hl1:¬s.left<1:=by have:=HF.out.2.1;omega
 have HPa:=zH hPa;have HJa:=zH hja;clear hPa hSa hja;have hnf:=run_eql_func_nil (P:=Tryz.prog) Tryz.underlying157;have FO:Hid (∀U,Calls Tryz.prog 53 #[.agg (arrPk p)] U fun e w'=>e=.returned (.tuple #[.agg (arrF (flP p)),.bool true])∧Chg [] U w'):=zH (fun U=>by
  have:=fof_any p U;unfold ofV at this;rw[if_pos HPE.out.2.2.2.2.1]at this;exact this)
 have HFL:Hid (flP p=⟨hd.src,t.t.sport,fin,t.t.dport⟩):=zH (by
  unfold flP;rw[HPE.out.1,HPE.out.2.2.1,HPE.out.2.2.2.2.2])
 generalize flP p=f at *;go_upto_region 16 with fail
 clear c81 k37 k39 k60 hl1 hnf;have hPa:=HPa.out;go_wp2_with (first
  |(refine zl rfl 38 (.tmp 6) rfl hPa rfl _ Tryz.underlying38 rfl infPk ?_)
  |fail)
 refine (FO.out _).mono ?_;rintro e wb ⟨rfl,hcb⟩;have hjb:=HJa.out.chg hcb (by simp);have HAb:=zH (HAa.out.trans hcb);have HZb:=zH (HZa.out.chg hcb (by simp));have HGb:=zH (HGa.out.chg0 hcb);clear FO hPa HPa HJa HAa HZa HGa hcb;go_upto_region 17 with (first
  |(refine wpList_store_part (vs:=arrF f) rfl 46 (.tmp 96) (.tmp 93) rfl rfl hjb 81 rfl rfl (by rw[j_size];show 81+34≤163;omega) infF rfl (js_f _ f) ?_;intro wc hjc hcc)
  |fail)
 have HGJ:Hid (gj∉S∧gj≠ga∧gj≠gp∧gj≠gt):=zH ⟨fun hm=>by have:=HSL.out _ hm;omega,by omega,by omega,by omega⟩;have hgW:W.heap.size≤gj:=by have:=HWW.out;omega
 have HGc:=zH (HGb.out.chgG hcc HGJ.out hgW);have HAc:=zH (HAb.out.trans' hcc (zN (by omega)));have HZc:=zH (HZb.out.chg hcc (by simp;omega));have HJc:=zH hjc;clear hjb HAb HZb HGb hcc hjc;have hD:(fun U:World=>Chg [gj] wc U) wc.drew:=(Chg.refl _ wc).drew;have hjd:=HJc.out.drew
 have ST:Hid (∀U,Chg [gj] wc U→U.cell? ⟨ga,2,none⟩=some (.pointer (some ⟨tb,0,none⟩))):=zH (fun U hc=>(HGc.out.blk.chg hc (by simp;omega)).cell 2);obtain⟨m1,m2,m3,q,nn,vs,sq,its,hct,_⟩:=(HGc.out.chg0 ((Chg.refl [] wc).drew)).ct.r;have FF:=zH (cfind_any hct (f:=f) (by rw[HFL.out];exact HP.out.hf.ok))
 have SFd:Hid (wc.drew.rangeAt gj 81 (arrF f).toList):=zH (hjd.part _ (jp_f _));clear hct;refine wp_region_noPanic ?_;refine wp_region_held_drew (S:=fun U:World=>Chg [gj] wc U) (by kernel_rfl) hD (fun _=>?_);refine zU 0 rfl (by go_simp<;>with_reducible rfl) ?_
 try simp only[zP]
 refine zU 1 rfl (by go_simp<;>with_reducible rfl) ?_
 try simp only[zP]
 refine zU 2 rfl (by go_simp<;>with_reducible rfl) ?_
 try simp only[zP]
 refine zU 3 rfl (by go_simp<;>with_reducible rfl) ?_
 try simp only[zP]
 refine zU 4 rfl (by go_simp<;>with_reducible rfl) ?_
 try simp only[zP]
 refine zT 5 rfl (zc (by rfl) 109 (.tmp 102) rfl ga 2 rfl (.pointer (some ⟨tb,0,none⟩)) _ ST.out Tryz.underlying109 rfl) ?_
 try simp only[zP]
 refine zU 6 rfl (by go_simp<;>with_reducible rfl) ?_
 try simp only[zP]
 refine zU 7 rfl (by go_simp<;>with_reducible rfl) ?_
 try simp only[zP]
 refine zU 8 rfl (by go_simp<;>with_reducible rfl) ?_
 try simp only[zP]
 refine zR 9 rfl (fun K hK=>?_);refine Fs.step_load_row rfl 46 (.tmp 106) rfl gj 81 rfl (arrF f) _ SFd.out Tryz.underlying46 rfl infF ?_;refine zB hK ?_;clear hK K
 try simp only[zP]
 refine zR 10 rfl (fun K hK=>?_);go_simp
 refine FF.out.mono ?_;rintro e wd ⟨rfl,hcd⟩;have e1:((getC (⟨1,0,0,[]⟩:TC) f).map (·.1)).getD eN0=eN0:=rfl;have e2:hasC (⟨1,0,0,[]⟩:TC) f=false:=rfl;rw[e1,e2];have hDd:(fun U:World=>Chg [gj] wc U) wd:=Chg.trans hD (hcd.more (by simp));have hjd2:=hjd.chg hcd (by simp);refine zB hK ?_;clear hK K
 try simp only[zP]
 refine zU 11 rfl (by go_simp<;>with_reducible rfl) ?_
 try simp only[zP]
 refine zU 12 rfl (by go_simp<;>with_reducible rfl) ?_
 try simp only[zP]
 refine zU 13 rfl (by go_simp<;>with_reducible rfl) ?_
 try simp only[zP]
 refine zU 14 rfl (by go_simp<;>with_reducible rfl) ?_
 try simp only[zP]
 refine zU 15 rfl (by go_simp<;>with_reducible rfl) ?_
 try simp only[zP]
 refine zR 16 rfl (fun K hK=>?_);refine step_store_part (vs:=arrN eN0) rfl 108 (.tmp 112) (.tmp 109) rfl hjd2 115 rfl rfl (by rw[j_size];show 115+46≤163;omega) infN rfl (js_e _ eN0) ?_;intro we hje hce;have hDe:(fun U:World=>Chg [gj] wc U) we:=Chg.trans hDd hce;refine zB hK ?_;clear hK K
 try simp only[zP]
 refine zU 17 rfl (by go_simp<;>with_reducible rfl) ?_
 try simp only[zP]
 refine zU 18 rfl (by go_simp<;>with_reducible rfl) ?_
 try simp only[zP]
 refine zR 19 rfl (fun K hK=>?_);refine step_store_cell (i:=161) (v:=.bool false) rfl 4 (.tmp 114) (.tmp 110) rfl hje rfl rfl rfl (by rw[j_size];omega) (by kernel_rfl) rfl ?_;intro wf hjf hcf;rw[js_is]at hjf;have hDf:(fun U:World=>Chg [gj] wc U) wf:=Chg.trans hDe hcf;refine zB hK ?_;clear hK K
 try simp only[zP]
 refine wpAnyH_done (by kernel_rfl) ?_ _;refine NoPanic.normal ?_;have HGf:=zH (HGc.out.chgG hDf HGJ.out hgW);have HAf:=zH (HAc.out.trans' hDf (zN (by omega)));have hZf:=HZc.out.chg hDf (by simp;omega);have hwf:=HAf.out.size
 have HTK:Hid (TakeP f node p.t.seq own y1 y2):=zH (by rw[HFL.out,HPE.out.2.2.2.2.2];exact HP.out);have FL:=zH (last_new (own:=own) (y1:=y1) (y2:=y2) hjf (by
   have:=HGf.out;rw[←HJE.out.1]at this;exact this) (by
   have:=HGJ.out;rw[←HJE.out.1]at this;exact this) hgW (by omega) (by rw[IntKind.wrap_i64];rfl) HTK.out rfl (by rw[show ({J with p:=p,n:=node,d:=3,r:=r,f:=f,e:=eN0,is:=false}:Jm).p.t.flags=p.t.flags from rfl,HPE.out.2.2.2.2.2];exact HF.out.2.2) (by simp) HF.out.1)
 have HZf:=zH hZf;have hwS:w.heap.size∉gj::S:=fun hm=>by
  rcases List.mem_cons.1 hm with e|hm
  ·omega
  ·have:=HSL.out _ hm;omega
 have HWS:=zH hwS;have hwzf:=hZf.lt;clear hD hDd hDe hDf hcd hce hcf hje hjf hjd2 hjd ST FF SFd HGc HAc HZc HJc HGf HTK hZf hwS e1 e2;go_wp2_with fail;refine FL.out.mono ?_;rintro e wg ⟨⟨go,cg,vb,ge,rfl,hk,ho,hgo⟩,hcg⟩;have hZg:=HZf.out.chg hcg HWS.out
 have HC:Hid (Chg S w wg):=zH ((HAf.out.more (by simp)).trans' hcg (fun x hx=>by
  rcases List.mem_cons.1 hx with e|hm
  ·right;omega
  ·exact .inl hm))
 have HK:=zH (And.intro hk (And.intro ho hgo));clear FL hk ho hgo hcg HZf HAf;go_wp2_with (first
  |(refine zs (vs:=arrRe go cg ge) rfl 69 (.tmp 4) (.tmp 117) rfl rfl hZg rfl rfl rfl infRe rfl ?_;intro wX hBX hcX)
  |fail)
 refine bodyPost_ret (results_blk rfl rfl hBX _ Tryz.underlying69 rfl infRe) rfl ?_;exact⟨(OneR.keep HK.out.1 HK.out.2.1 HK.out.2.2 hcX hwzf).less (Nat.le_of_lt hwzf),HC.out.trans' hcX (by intro x hx;simp at hx;subst hx;right;exact Nat.le_refl _)⟩
end Go.Proofs.YtgbndaiifbogmaaGreat
namespace Go.Proofs.YtgbndaiifbogmaaGreat
open Go.RowKit Go.Maps
theorem linsert_any {w:World} {v:Value} {l:By} {a:Ad} (h:SlY w 0 v l) (hb:okB l) (hl:l.length≤1000000) (ha:okA a) :
  Calls Tryz.prog 20 #[v,.agg (arrA a)] w fun e w'=>RvPost (insS l [a]) w.heap.size e w'∧Chg [] w w':=by
 have hB:Blk (w.alloc (.cells (arrA a) 24)) w.heap.size 24 (arrA a):=Blk.new _ _ _;have hA:=((Chg.refl [] w).alloc (.cells (arrA a) 24)).alloc (.cells (arrA a) 24);have hL:SlD ((w.alloc (.cells (arrA a) 24)).alloc (.cells (arrA a) 24)) 0 (.slice (some ⟨w.heap.size+1,0,none⟩) 1 1) [a]:=by
  have:=litD (w.alloc (.cells (arrA a) 24)) a;have e:(w.alloc (.cells (arrA a) 24)).heap.size=w.heap.size+1:=by simp
  rw[e]at this;exact this
 have FI:=zH (rinsert_any (h.chg0 hA) hb hl ha hL);have HA:=zH hA;obtain⟨A,c,rfl⟩:=h.form;generalize insS l [a]=x at *;clear h hb hl ha hL hA;go_enter Tryz.func20,Tryz.ntmps20
 go_wp2_with (first
  |(refine zl rfl 24 (.tmp 3) rfl hB rfl _ Tryz.underlying24 rfl infAd ?_)
  |fail)
 refine FI.out.mono ?_;rintro e w1 ⟨hp,hc1⟩;have HC:=zH (HA.out.trans hc1);have hz:=HA.out.size;clear FI HA hc1 hB;cases x with
 |error n=>
  obtain rfl:e=_:=hp;go_wp2_with fail;go_ret2
  exact⟨RvPost.err rfl,HC.out⟩
 |ok y=>
  obtain⟨v1,rfl,ho⟩:=hp;have HO:=zH (ownsRow_less (B':=w.heap.size) ho hz);clear ho;go_wp2_with fail;go_ret2
  exact⟨RvPost.ok rfl HO.out,HC.out⟩
@[reducible] def ad1:Ad:=⟨0,0,0,0,0,0,0,0,0,0,0,0,0,0,0,1⟩
@[reducible] def ad2:Ad:=⟨0,0,0,0,0,0,0,0,0,0,0,0,0,0,0,2⟩
theorem ok_ad1:okA ad1:=by intro x hx;simp[Ad.l]at hx;rcases hx with rfl|rfl<;>decide
theorem ok_ad2:okA ad2:=by intro x hx;simp[Ad.l]at hx;rcases hx with rfl|rfl<;>decide
@[reducible] def flS:Fl:=⟨ad1,5,ad2,80⟩
theorem ports_S:PortsF flS:=⟨⟨ok_ad1,by decide,ok_ad2,by decide⟩,by decide,by decide⟩
theorem seal_sp (src dst:Ad) (t:Sg) (p:By):(sealT src dst t p).sport=t.sport∧(sealT src dst t p).dport=t.dport∧(sealT src dst t p).seq=t.seq∧(sealT src dst t p).flags=t.flags:=by
 unfold sealT;split<;>exact⟨rfl,rfl,rfl,rfl⟩
theorem asked {W w:World} {ga:Nat} {node load:Int} {tb gp gt:Nat} {S:List Nat} {pv dr:Array Value} {v:Value} {f:Fl} {seq:Int} {x y1 y2 body:By} (hg:AgR W w ga node load tb gp gt 0 ⟨1,0,0,[]⟩ S pv dr) (hn:1≤node∧node≤65535) (hf:PortsF f) (h:SlY w 0 v x) (hb:okB x) (hl:x.length≤1000000)
  (hm:parseS x=.ok ⟨⟨0,0,60,43,64,f.src,sidA node 3 1⟩,some ⟨6,1,0,0,[f.dst,sidA node 3 1]⟩,f.dst,.tcp ⟨sealT f.src f.dst (reqT f seq) [],[]⟩,body⟩)
  (p1:tcpP f.dst f.src (greetT f seq (hashA node seq f)) []=.ok y1) (p2:okB y1) (p3:y1.length≤1000000) (p4:insS y1 [sidA 0 6 node]=.ok y2) :
  Calls Tryz.prog 21 #[.pointer (some ⟨ga,0,none⟩),v] w fun e w'=>OneR w e w' y2∧Chg S w w':=by
 obtain⟨e1,e2,e3,e4⟩:=seal_sp f.src f.dst (reqT f seq) [];refine handle_new (own:=hashA node seq f) (y1:=y1) hg h hb hl hm rfl (by omega) (show (1:Int)≤1 by decide) ?_ ?_
 ·rw[e4];show firstF 2=true;decide
 ·have hfl:(⟨f.src,(sealT f.src f.dst (reqT f seq) []).sport,f.dst,(sealT f.src f.dst (reqT f seq) []).dport⟩:Fl)=f:=by rw[e1,e2]
  simp only[hfl,e3];exact⟨hn,hf,p1,p2,p3,p4,rfl⟩
theorem lsignal_any (w:World):∃y,answerS 3 flS 0 (hashA 3 0 flS)=.ok y∧okB y∧y.length≤1000000∧Calls Tryz.prog 59 #[.int .i64 3] w fun e w'=>∃v,e=.returned v∧OwY w' w.heap.size v y∧Chg [] w w':=by
 have ho:0≤hashA 3 0 flS∧hashA 3 0 flS≤4294967295:=by unfold hashA;rw[IntKind.wrap_u32'];omega
 obtain⟨r1,r2⟩:=reqT_ok ports_S (seq:=0) (by decide);obtain⟨b0,x,q1,q2,q3,q4,q5,q6,q7⟩:=via_plain ok_ad1 ok_ad2 (sidA_ok 3 3 1) r1 r2;obtain⟨g1,g2⟩:=greetT_ok ports_S (seq:=0) ho;obtain⟨y1,y2,p1,p2,p3,p4,p5,p6,_⟩:=via_plain ok_ad2 ok_ad1 (sidA_ok 0 6 3) g1 g2
 have hans:answerS 3 flS 0 (hashA 3 0 flS)=.ok y2:=by
  unfold answerS;rw[show tcpP flS.dst flS.src (greetT flS 0 (hashA 3 0 flS)) []=.ok y1 from p1];exact p4
 refine⟨y2,hans,p5,p6,?_⟩;have FN:=zH (anew_any 3);have FM:Hid (∀U,Calls Tryz.prog 18 #[.agg (arrSi 3 3 1)] U fun e w'=>e=.returned (.tuple #[.agg (arrA (sidA 3 3 1)),.int .i64 0])∧Chg [] U w'):=zH (fun U=>rmake_any (n:=3) (d:=3) (r:=1) (by omega) (by omega) (by omega) U)
 have FT:=zH (fun U=>rtcp_any ok_ad1 ok_ad2 (t:=reqT flS 0) ⟨r1.seq,r1.ack⟩ (w:=U) (SlY.nil U 0) (by intro z hz;simp at hz) (by simp));rw[show tcpP ad1 ad2 (reqT flS 0) []=.ok b0 from q1]at FT;have FI:=zH (fun U v (h:SlY U 0 v b0)=>linsert_any h q2 q3 (sidA_ok 3 3 1));rw[q4]at FI
 have FH:=zH (fun U ga tb gp gt S (hg:AgR w U ga 3 0 tb gp gt 0 ⟨1,0,0,[]⟩ S (arrPo 0 1 0 0 fnAlways) arrTy0) v (h:SlY U 0 v x)=>asked hg (by omega) ports_S h q5 q6 q7 p1 p2 p3 p4);clear q1 q2 q3 q4 q5 q6 q7 p1 p2 p3 p4 p5 p6 g1 g2 r1 r2 hans ho;generalize sidA 3 3 1=sa at *
 go_enter Tryz.func59,Tryz.ntmps59
 go_wp2_with fail;refine (FN.out _).mono ?_;rintro e w1 ⟨hp,hc1⟩;rw[if_pos (by omega)]at hp;obtain⟨ga,tb,gp,gt,S,rfl,hR⟩:=hp;have HR:=zH hR;have HC1:=zH hc1;clear FN hR hc1;go_wp2_with fail;refine (FM.out _).mono ?_;rintro e w2 ⟨rfl,hc2⟩
 have hB2:Blk (w2.alloc (.cells (arrA ad0) 24)) w2.heap.size 24 (arrA ad0):=Blk.new _ _ _;have HC2:=zH (hc2.alloc (.cells (arrA ad0) 24));have hz2:=hc2.size;clear FM hc2;go_upto_region 3 with (first
  |(refine zs (vs:=arrA sa) rfl 24 (.tmp 4) (.tmp 18) rfl rfl hB2 rfl rfl rfl infAd rfl ?_;intro w3 hB3 hc3)
  |fail)
 have HC3:Hid (Chg [] w1 w3):=zH (HC2.out.trans' hc3 (zN (by omega)));clear HC2 hB2 hc3;go_wp2_with fail;refine (FT.out _).mono ?_;rintro e w4' ⟨⟨v4,rfl,ho4⟩,hc4⟩;have hB4:=hB3.chg hc4 (by simp);have HC4:=zH (HC3.out.trans hc4);have HS4:=zH (Sl.less (B':=0) (OwY.sl ho4) (Nat.zero_le _))
 clear FT hc4 ho4 hB3 HC3;go_wp2_with (first
  |(refine zl rfl 24 (.tmp 4) rfl hB4 rfl _ Tryz.underlying24 rfl infAd ?_)
  |fail)
 refine (FI.out _ _ HS4.out).mono ?_;rintro e w5 ⟨⟨v5,rfl,ho5⟩,hc5⟩;have HC5:=zH (HC4.out.trans hc5);have HS5:=zH (Sl.less (B':=0) (OwY.sl ho5) (Nat.zero_le _));have HR5:=zH (HR.out.chg0 HC5.out);clear FI hc5 ho5 hB4 HC4 HS4 HR;go_wp2_with fail;refine (FH.out _ _ _ _ _ _ HR5.out _ HS5.out).mono ?_
 rintro e w6 ⟨⟨go,cg,vb,ge,rfl,hk,hoy,hgo⟩,hc6⟩;have hB6:Blk (w6.alloc (.cells arrR0 69)) w6.heap.size 69 arrR0:=Blk.new _ _ _;have HC6:Hid (Chg [] w w6):=zH ((HC1.out.trans HC5.out).trans' hc6 (fun z hz=>.inr (HR5.out.ct.new z hz)));have HK:=zH (And.intro hk (And.intro hoy hgo));have hz6:=hc6.size
 have hz5:=(HC1.out.trans HC5.out).size;clear FH hk hoy hgo hc6 HC1 HC5 HS5 HR5;go_upto_region 6 with (first
  |(refine zs (vs:=arrRe go cg ge) rfl 69 (.tmp 10) (.tmp 35) rfl rfl hB6 rfl rfl rfl infRe rfl ?_;intro w7 hB7 hc7)
  |fail)
 have hk:=HK.out.1;have hgl:go<w6.heap.size:=World.block_lt_of_cell? w6 ⟨go,0,none⟩ hk;have k1:w7.cell? ⟨go,0,none⟩=some vb:=hc7.cell (((Chg.refl [] w6).alloc (.cells arrR0 69)).cell hk (by simp)) (by intro hm;have h2:=List.mem_singleton.1 hm;simp only[]at h2;omega)
 have k0:w7.cell? ⟨w6.heap.size,0,none⟩=some (.slice (some ⟨go,0,none⟩) 1 cg):=hB7.cell 0
 have HF:=zH (And.intro (own_chg (own_chg HK.out.2.1 ((Chg.refl [] w6).alloc (.cells arrR0 69)) (by simp)) hc7 (fun z hz hm=>by have h1:=(own_lt HK.out.2.1 z hz).2;have h2:=List.mem_singleton.1 hm;omega)) ((HC6.out.alloc (.cells arrR0 69)).trans' hc7 (zN (by omega))));clear hB6 hB7 hc7 hk HK HC6 hgl
 go_wp2_with fail;go_ret
 exact⟨_,rfl,ownsRow_less HF.out.1 hz5,HF.out.2⟩
end Go.Proofs.YtgbndaiifbogmaaGreat
