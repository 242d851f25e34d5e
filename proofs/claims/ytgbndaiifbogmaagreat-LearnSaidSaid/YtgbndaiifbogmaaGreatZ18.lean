/-
  Small laws and walks on the way to LearnSaid: Qf, Qv, Qg, Qh, Qi. Conditions: each theorem names its own.
-/
import Derived.Test.YtgbndaiifbogmaaGreatZ17
import Derived.Test.YtgbndaiifbogmaaGreatZ03
set_option linter.unusedVariables false
set_option linter.unusedSimpArgs false
set_option maxRecDepth 100000
set_option maxHeartbeats 8000000
namespace Go.Proofs.YtgbndaiifbogmaaGreat
open Go.RowKit Go.Maps
theorem OwY.snoc {w:World} {B:Nat} {v:Value} {l m:By} {n:Nat} (hn:m.length=n) (h:w.ownsRow B 5 1 v (l.length+n) (l.map byV++m.map byV)):OwY w B v (l++m):=by
 unfold OwY;rw[List.length_append,List.map_append,hn];exact h
theorem sly_part {w:World} {g o:Nat} {t:TypeId} {cs:Array Value} {l:By} (h:Blk w g t cs) (e:(cs.toList.drop o).take l.length=l.map byV):SlY w 0 (.slice (some ⟨g,o,none⟩) l.length l.length) l:=by
 refine⟨by simp,_,_,rfl,Nat.le_refl _,fun _=>⟨g,o,rfl,Nat.zero_le _,fun j u hu=>?_⟩⟩;rw[h.cell];rw[←e]at hu;rw[List.getElem?_take]at hu;split at hu
 ·rw[List.getElem?_drop]at hu;simpa using hu
 ·cases hu
theorem or_word {x y:Nat} (k:Nat) (hx:x%2 ^ k=0) (hy:y<2 ^ k) (hs:x+y<4294967296):bits .or .i64 (x:Int) (y:Int)=((x+y:Nat):Int):=by
 have h1:(BitVec.ofInt 64 (x:Int)).toNat=x:=by
  rw[BitVec.ofInt_natCast,BitVec.toNat_ofNat];exact Nat.mod_eq_of_lt (by omega)
 have h2:(BitVec.ofInt 64 (y:Int)).toNat=y:=by
  rw[BitVec.ofInt_natCast,BitVec.toNat_ofNat];exact Nat.mod_eq_of_lt (by omega)
 show IntKind.i64.wrap ((BitVec.ofInt 64 (x:Int) ||| BitVec.ofInt 64 (y:Int)).toNat:Int)=_;rw[BitVec.toNat_or,h1,h2,nat_join k x y hx hy,IntKind.wrap_i64];omega
theorem adB_of {A:Ad} (h:okA A):encA A=(adB A).map byV:=(adB_enc h).symm
theorem join_any {w:World} {pv:Value} {vs:List Value} {Ls:List By} (h:SlL w 0 pv vs Ls) (hn:vs.length≤1000) (ht:Ls.flatten.length≤1000000) :
  Calls Tryz.prog 324 #[pv] w fun e w'=>∃v,e=.returned v∧OwY w' w.heap.size v Ls.flatten∧Chg [] w w':=by
 obtain⟨A,c,rfl⟩:=h.sl.form;have HA:Hid (∀k,k<vs.length→∃b o v l,A=some ⟨b,o,none⟩∧vs[k]?=some v∧Ls[k]?=some l∧(∀W,Chg [] w W→W.cell? ⟨b,o+k,none⟩=some v∧SlY W 0 v l)):=zH fun k hk=>by
  obtain⟨b,o,c',e,_,_,hc⟩:=Sl.at_ h.sl hk (by omega);simp only[Value.slice.injEq,true_and]at e;have hc0:=hc 0 (by omega);simp only[Nat.mul_one,Nat.add_zero]at hc0;have h1:vs[k]?=some vs[k]:=List.getElem?_eq_getElem hk;have h2:Ls[k]?=some (Ls[k]'(by rw[h.len];exact hk)):=List.getElem?_eq_getElem _
  exact⟨b,o,_,_,e.1,h1,h2,fun W hc=>⟨hc.cell (by rw[hc0,h1]) (by simp),(h.each k _ _ h1 h2).1.chg0 hc⟩⟩
 have HS:Hid (∀k l,Ls[k]?=some l→(Ls.take (k+1)).flatten=(Ls.take k).flatten++l):=zH fun k l hl=>flat_take_succ hl
 have HL:Hid (∀k,(Ls.take k).flatten.length≤1000000):=zH fun k=>by have:=flat_take_len Ls k;omega
 have HE:Hid (Ls.take vs.length=Ls):=zH (by rw[←h.len,List.take_length]);generalize vs.length=k at *;clear h ht;go_enter Tryz.func324,Tryz.ntmps324
 go_wp2_with fail;go_loopw [3,5,8] (fun vv _ iv wr=>∃j:Nat,j≤k∧iv=.int .i64 j∧Hid (OwY wr w.heap.size vv (Ls.take j).flatten)∧Hid (Chg [] w wr)) (fun _ _ iv _=>k-(intOf iv).toNat)
 case atStart=>exact⟨0,by omega,rfl,zH (OwY.nil _ _),zH (Chg.refl _ _)⟩
 case round=>
  obtain⟨j,hj,rfl,HO,HC⟩:=hrel;by_cases hlt:j<k
  ·obtain⟨b,o,v,l,rfl,hv,hl,hW⟩:=HA.out j hlt;obtain⟨hcell,hs⟩:=hW wr HC.out;obtain⟨A2,c2,rfl⟩:=hs.form;have hkI:(j:Int)<(k:Int):=by omega
   have hfl:=HS.out j l hl;have hL1:=HL.out (j+1);have HLL:=zH (And.intro hL1 (congrArg List.length hfl));have HFL:=zH hfl;have HSl:=zH hs;have hz:=HC.out.size;have hOl:=zH (own_lt HO.out);clear hfl hL1 hs hv hl hW HA HS HL HE;have hlen:(Ls.take j).flatten.length+l.length≤1000000:=by
    have:=HLL.out;rw[List.length_append]at this;omega
   go_wp2_with (first
    |(at_builtin;refine wpList_app elY rfl (.tmp 12) (.tmp 13) rfl w.heap.size rfl HO.out rfl HSl.out (byV_one _) (by unfold maxLen;omega) (by omega) hz ?_;intro v2 w2 hown2 hc2 hb2)
    |fail)
   go_round
   case rel=>exact⟨j+1,by omega,by go_num,zH (by rw[HFL.out];exact OwY.snoc rfl hown2),zH (HC.out.trans' hc2 (fun x hx=>.inr (hOl.out x hx).1))⟩
   case measure=>simp[intOf];omega
  ·obtain rfl:j=k:=by omega
   have he:=HE.out;have hjI:¬((j:Int)<(j:Int)):=by omega
   rw[he]at HO;clear hlt he HE HA HS HL;go_wp2_with fail;go_ret
   exact⟨_,rfl,HO.out,HC.out⟩
end Go.Proofs.YtgbndaiifbogmaaGreat
namespace Go.Proofs.YtgbndaiifbogmaaGreat
open Go.RowKit Go.Maps
@[reducible] def arrNo (f:Fl) (n:Int):Array Value:=#[.int .u8 f.src.a0,.int .u8 f.src.a1,.int .u8 f.src.a2,.int .u8 f.src.a3,.int .u8 f.src.a4,.int .u8 f.src.a5,.int .u8 f.src.a6,.int .u8 f.src.a7,.int .u8 f.src.a8,.int .u8 f.src.a9,.int .u8 f.src.a10,.int .u8 f.src.a11,.int .u8 f.src.a12,.int .u8 f.src.a13,.int .u8 f.src.a14,.int .u8 f.src.a15,.int .i64 f.sport,.int .u8 f.dst.a0,.int .u8 f.dst.a1,.int .u8 f.dst.a2,.int .u8 f.dst.a3,.int .u8 f.dst.a4,.int .u8 f.dst.a5,.int .u8 f.dst.a6,.int .u8 f.dst.a7,.int .u8 f.dst.a8,.int .u8 f.dst.a9,.int .u8 f.dst.a10,.int .u8 f.dst.a11,.int .u8 f.dst.a12,.int .u8 f.dst.a13,.int .u8 f.dst.a14,.int .u8 f.dst.a15,.int .i64 f.dport,.int .i64 n]
theorem infNo {f:Fl} {n:Int}:(Tryz.prog.info? 48).map (·.size)=some (arrNo f n).size:=by
 show _=some 35;kernel_rfl
theorem infSid {x y z:Int}:(Tryz.prog.info? 63).map (·.size)=some (#[Value.int .i64 x,.int .i64 y,.int .u32 z]).size:=by
 show _=some 3;kernel_rfl
def okSp:Option (Int×Int×Int)→Bool|some _=>true|none=>false
def numSp:Option (Int×Int×Int)→Int×Int×Int|some x=>x|none=>(0,0,0)
theorem spV_eq (o:Option (Int×Int×Int)):spV o=.tuple #[.agg #[.int .i64 (numSp o).1,.int .i64 (numSp o).2.1,.int .u32 (numSp o).2.2],.bool (okSp o)]:=by cases o<;>rfl
def errP (p:Pm):Int:=firstE (kindE p.rt p.k) (formE (okSp (splitA p.h.dst)) (numSp (splitA p.h.dst)).1 (numSp (splitA p.h.dst)).2.1 (numSp (splitA p.h.dst)).2.2) (leftE p.s.left)
def noteV (p:Pm):Value:=if errP p≠0 then .tuple #[.agg (arrNo fl0 0),.int .i64 (errP p)] else .tuple #[.agg (arrNo (backF (flP p)) (numSp (splitA p.h.dst)).2.2),.int .i64 0]
theorem errP_zero {p:Pm} (h:errP p=0):p.k=6∧1≤(numSp (splitA p.h.dst)).2.2∧(numSp (splitA p.h.dst)).2.2≤65535:=by
 unfold errP firstE at h;by_cases h1:p.rt=true∧p.k=6
 ·rw[kindE,if_pos h1]at h;rw[if_neg (by simp)]at h;by_cases h2:okSp (splitA p.h.dst)=true∧(numSp (splitA p.h.dst)).1=0∧(numSp (splitA p.h.dst)).2.1=6∧1≤(numSp (splitA p.h.dst)).2.2∧(numSp (splitA p.h.dst)).2.2≤65535
  ·exact⟨h1.2,h2.2.2.2.1,h2.2.2.2.2⟩
  ·rw[formE,if_neg h2]at h;rw[if_pos (by omega)]at h;omega
 ·rw[kindE,if_neg h1]at h;rw[if_pos (by omega)]at h;omega
theorem lread_any {p:Pm} (hd:okA p.h.dst) (ho:(arrPk p).toList.all (·.oneCell')=true) (w:World) :
  Calls Tryz.prog 12 #[.agg (arrPk p)] w fun e w'=>e=.returned (noteV p)∧Chg [] w w':=by
 have hmf:∀(fn:Fn) (first cap:Array Value) (w:World),(Instr.makeFunc fn first cap).run Tryz.prog w=.ok (.func fn first cap) w:=fun _ _ _ _=>rfl
 have hA:=((Chg.refl [] w).alloc (.cells (arrPk p) 38)).alloc (.cells (arrNo fl0 0) 48);have hB:Blk ((w.alloc (.cells (arrPk p) 38)).alloc (.cells (arrNo fl0 0) 48)) w.heap.size 38 (arrPk p):=(Blk.new _ _ _).alloc _
 have hBn:Blk ((w.alloc (.cells (arrPk p) 38)).alloc (.cells (arrNo fl0 0) 48)) (w.heap.size+1) 48 (arrNo fl0 0):=Blk.new' (by simp);have FS:=zH (fun W=>ssplit_any hd W);have HA:=zH hA
 have HV:Hid (noteV p=if errP p≠0 then .tuple #[.agg (arrNo fl0 0),.int .i64 (errP p)] else .tuple #[.agg (arrNo (backF (flP p)) (numSp (splitA p.h.dst)).2.2),.int .i64 0]):=zH rfl
 have HEr:Hid (firstE (kindE p.rt p.k) (formE (okSp (splitA p.h.dst)) (numSp (splitA p.h.dst)).1 (numSp (splitA p.h.dst)).2.1 (numSp (splitA p.h.dst)).2.2) (leftE p.s.left)=errP p):=zH rfl;have HE0:=zH (fun h=>errP_zero (p:=p) h);rw[spV_eq]at FS;generalize okSp (splitA p.h.dst)=ok at *
 generalize (numSp (splitA p.h.dst)).1=n at *;generalize (numSp (splitA p.h.dst)).2.1=d at *;generalize (numSp (splitA p.h.dst)).2.2=a at *;generalize errP p=er at *;generalize noteV p=nv at *;clear hA hd;go_enter Tryz.func12,Tryz.ntmps12
 go_wp2_with (first
  |(refine wpList_load_part (vs:=arrA p.h.dst) rfl 24 (.tmp 14) rfl hB 21 rfl _ Tryz.underlying24 rfl infAd (pk_dst p) ?_)
  |fail)
 refine (FS.out _).mono ?_;rintro e w1 ⟨rfl,hc1⟩;have hz1:=hc1.size;have hBs:Blk ((w1.alloc (.cells #[.int .i64 0,.int .i64 0,.int .u32 0] 63)).alloc (.cells #[.bool false] 4)) w1.heap.size 63 #[.int .i64 0,.int .i64 0,.int .u32 0]:=(Blk.new _ _ _).alloc _
 have hBb:Blk ((w1.alloc (.cells #[.int .i64 0,.int .i64 0,.int .u32 0] 63)).alloc (.cells #[.bool false] 4)) (w1.heap.size+1) 4 #[.bool false]:=Blk.new' (by simp);have hP1:=((hB.chg hc1 (by simp)).alloc (.cells #[.int .i64 0,.int .i64 0,.int .u32 0] 63)).alloc (.cells #[.bool false] 4)
 have hN1:=((hBn.chg hc1 (by simp)).alloc (.cells #[.int .i64 0,.int .i64 0,.int .u32 0] 63)).alloc (.cells #[.bool false] 4);have HC1:=zH (((HA.out.trans hc1).alloc (.cells #[.int .i64 0,.int .i64 0,.int .u32 0] 63)).alloc (.cells #[.bool false] 4));have hlt:=(hBn.chg hc1 (by simp)).lt
 clear hB hBn hc1 FS HA;go_upto_region 2 with (first
  |(refine zs (vs:=#[.int .i64 n,.int .i64 d,.int .u32 a]) rfl 63 (.tmp 4) (.tmp 17) rfl rfl hBs rfl rfl rfl infSid rfl ?_;intro w2 hB2 hc2;have hbb2:=hBb.chg hc2 (by simp);have cb:w2.cell? ⟨w1.heap.size+1,0,none⟩=some (.bool false):=hbb2.cell 0;have fb:=hbb2.frozen 0)
  |fail)
 obtain⟨w3,hw3⟩:∃w3,w3=w2.setCell ⟨w1.heap.size+1,0,none⟩ (.bool ok):=⟨_,rfl⟩;have hc3:Chg [w1.heap.size+1] w2 w3:=by rw[hw3];exact (Chg.refl _ _).setCell (p:=⟨w1.heap.size+1,0,none⟩) (.inl (by simp)) _
 have hb3:Blk w3 (w1.heap.size+1) 4 #[.bool ok]:=by rw[hw3];exact hbb2.set_ 0 (.bool ok)
 have hS3:=hB2.chg hc3 (by simp);have hP3:=(hP1.chg hc2 (by simp;omega)).chg hc3 (by simp;omega);have hN3:=(hN1.chg hc2 (by simp;omega)).chg hc3 (by simp;omega);have HC3:=zH ((HC1.out.trans' hc2 (zN (by omega))).trans' hc3 (zN (by omega)));rw[←hw3];have hg3:=hb3.lt
 clear hw3 cb fb hbb2 hBs hBb hP1 hN1 HC1 hB2 hc2 hc3
 have hc4:=(Chg.refl [] w3).alloc (.cells #[.func (.func 48) #[] #[.pointer (some ⟨w.heap.size,0,none⟩)],.func (.func 50) #[] #[.pointer (some ⟨w1.heap.size+1,0,none⟩),.pointer (some ⟨w1.heap.size,0,none⟩)],.func (.func 51) #[] #[.pointer (some ⟨w.heap.size,0,none⟩)]] 137)
 have hF:Blk (w3.alloc (.cells #[.func (.func 48) #[] #[.pointer (some ⟨w.heap.size,0,none⟩)],.func (.func 50) #[] #[.pointer (some ⟨w1.heap.size+1,0,none⟩),.pointer (some ⟨w1.heap.size,0,none⟩)],.func (.func 51) #[] #[.pointer (some ⟨w.heap.size,0,none⟩)]] 137)) w3.heap.size 137 _:=Blk.new _ _ _
 have FF:=zH (lfirst_any (hP3.chg hc4 (by simp)) ((hb3.chg hc4 (by simp)).cell 0) ((hS3.chg hc4 (by simp)).cell 0) ((hS3.chg hc4 (by simp)).cell 1) ((hS3.chg hc4 (by simp)).cell 2) (hF.cell 0) (hF.cell 1) (hF.cell 2));rw[HEr.out]at FF;have hP4:=hP3.chg hc4 (by simp);have hN4:=hN3.chg hc4 (by simp)
 have hS4:=hS3.chg hc4 (by simp);have HC4:=zH (HC3.out.trans hc4);clear hc4 hF hP3 hN3 hS3 hb3 HC3 HEr;go_wp2_with fail;refine FF.out.mono ?_;rintro e w4 ⟨rfl,hw4⟩;rw[hw4]at hP4 hN4 hS4 HC4;clear hw4 FF;by_cases he:er=0
 case neg=>
  have hI:(er !=0)=true:=by simpa using he
  have hv:=HV.out;rw[if_pos he]at hv;replace hv:=zH hv;clear HV HE0 he hP4 hS4;go_wp2_with (first
   |(refine zs (vs:=arrNo fl0 0) rfl 48 (.tmp 2) (.tmp 29) rfl rfl hN4 rfl rfl rfl infNo rfl ?_;intro w5 hB5 hc5)
   |fail)
  refine bodyPost_ret (zr rfl rfl hB5 _ Tryz.underlying48 rfl infNo) rfl ?_;exact⟨by rw[hv.out];rfl,HC4.out.trans' hc5 (zN (by omega))⟩
 have hv:=HV.out;rw[if_neg (by simpa using he)]at hv;replace hv:=zH hv;obtain⟨hk6,ha1,ha2⟩:=HE0.out he;have hI:(er !=0)=false:=by simpa using he
 have HOF:=zH (fof_any p);have hof:ofV p=.tuple #[.agg (arrF (flP p)),.bool true]:=by unfold ofV;rw[if_pos hk6]
 rw[hof]at HOF;have HBK:=zH (fback_any (flP p));have hwa:IntKind.i64.wrap a=a:=by rw[IntKind.wrap_i64];omega
 clear HV HE0 he hof hk6;go_wp2_with (first
  |(refine zl rfl 38 (.tmp 1) rfl hP4 rfl _ Tryz.underlying38 rfl infPk ?_)
  |fail)
 refine (HOF.out _).mono ?_;rintro e w5 ⟨rfl,hc5⟩;have hc6:=hc5.alloc (.cells (arrF fl0) 46);have hN6:=hN4.chg hc6 (by simp);have hS6:=hS4.chg hc6 (by simp);have hB6:Blk (w5.alloc (.cells (arrF fl0) 46)) w5.heap.size 46 (arrF fl0):=Blk.new _ _ _;have HC6:=zH (HC4.out.trans hc6);have hz5:=hc5.size
 have hn4:=hN4.lt;have hs4:=hS4.lt;clear hc5 hc6 hN4 hS4 hP4 HC4 HOF;go_upto_region 9 with (first
  |(refine zs (vs:=arrF (flP p)) rfl 46 (.tmp 10) (.tmp 34) rfl rfl hB6 rfl rfl rfl infF rfl ?_;intro w7 hB7 hc7)
  |fail)
 have hN7:=hN6.chg hc7 (by simp;omega);have hS7:=hS6.chg hc7 (by simp;omega);have HC7:=zH (HC6.out.trans' hc7 (zN (by omega)));have hS37:=hS7.lt;have R0:=zH (fun W (hc:Chg [w.heap.size+1] w7 W)=>(hB7.chg hc (by simp;omega)).rangeQ)
 have S3:=zH (fun W (hc:Chg [w.heap.size+1] w7 W)=>(hS7.chg hc (by simp;omega)).cell 2);have hD:Chg [w.heap.size+1] w7 w7.drew:=(Chg.refl _ w7).drew;have HNN:=zH hN7;clear hB6 hN6 hS6 hc7 HC6 hN7;refine wp_region_held_drew (S:=fun W:World=>Chg [w.heap.size+1] w7 W) (by kernel_rfl) hD (fun _=>?_)
 refine zT 0 rfl (yields_row (by rfl) 46 (.tmp 10) rfl w5.heap.size 0 rfl (arrF (flP p)) _ R0.out Tryz.underlying46 rfl infF) ?_
 try simp only[zP]
 refine zU 2 rfl (by go_simp<;>with_reducible rfl) ?_
 try simp only[zP]
 refine zT 3 rfl (zc (by rfl) 31 (.tmp 38) rfl w1.heap.size 2 rfl (.int .u32 a) _ S3.out Tryz.underlying31 rfl) ?_
 try simp only[zP]
 refine zU 4 rfl (by go_simp<;>with_reducible rfl) ?_
 try simp only[zP]
 refine zR 1 rfl (fun K hK=>?_);go_simp
 refine (HBK.out _).mono ?_;rintro e w8 ⟨rfl,hc8⟩;have hC8:(fun W:World=>Chg [w.heap.size+1] w7 W) w8:=hD.trans (hc8.more (by simp));have hN8:=HNN.out.chg ((Chg.refl [] w7).drew.trans hc8) (by simp);have HC8:=zH (HC7.out.trans ((Chg.refl [] w7).drew.trans hc8));clear hc8 HC7 hB7 hS7 HNN
 refine zB hK ?_;clear hK K
 try simp only[zP]
 refine zU 5 rfl (by go_simp<;>with_reducible rfl) ?_
 try simp only[zP]
 refine zR 6 rfl (fun K hK=>?_);refine step_store_blk (vs:=arrNo (backF (flP p)) a) rfl 48 (.tmp 2) (.tmp 41) rfl hN8 rfl rfl rfl infNo rfl ?_;intro w9 hN9 hc9;have hC9:(fun W:World=>Chg [w.heap.size+1] w7 W) w9:=hC8.trans hc9;have HC9:=zH (HC8.out.trans' hc9 (zN (by omega)));refine zB hK ?_
 clear hK K
 try simp only[zP]
 refine zU 7 rfl (by go_simp<;>with_reducible rfl) ?_
 try simp only[zP]
 refine wpAnyH_done (by kernel_rfl) ?_ _;clear hC8 hC9 hc9 hD R0 S3 hN8;go_wp2_with fail;refine bodyPost_ret (zr rfl rfl hN9 _ Tryz.underlying48 rfl infNo) rfl ?_;exact⟨by rw[hv.out];rfl,HC9.out⟩
end Go.Proofs.YtgbndaiifbogmaaGreat
namespace Go.Proofs.YtgbndaiifbogmaaGreat
open Go.RowKit Go.Maps
theorem word_facts {c l:Int} (h1:0≤c∧c≤255) (h2:0≤l∧l≤1048575) :
  ∃(N:Nat) (a b:Int),(1610612736+c*1048576+l).toNat=N∧IntKind.i64.wrap (c*1048576)=a∧bits .or .i64 1610612736 a=b∧bits .or .i64 b l=(N:Int)∧IntKind.u32.wrap (N:Int)=(N:Int):=by
 obtain⟨x1,rfl⟩:∃x:Nat,c=(x:Int):=⟨c.toNat,by omega⟩;obtain⟨x2,rfl⟩:∃x:Nat,l=(x:Int):=⟨l.toNat,by omega⟩
 refine⟨1610612736+x1*1048576+x2,((x1*1048576:Nat):Int),((1610612736+x1*1048576:Nat):Int),by omega,by rw[IntKind.wrap_i64];omega,or_word (x:=1610612736) (y:=x1*1048576) 28 (by omega) (by omega) (by omega),or_word (x:=1610612736+x1*1048576) (y:=x2) 20 (by omega) (by omega) (by omega),by rw[IntKind.wrap_u32'];omega⟩
theorem sput_any {h:Hd} (k:wfH h) (w:World):Calls Tryz.prog 217 #[.slice none 0 0,.agg (arrH h)] w fun e w'=>∃v,e=.returned v∧OwY w' w.heap.size v (putH h)∧Chg [] w w':=by
 have hA:=(Chg.refl [] w).alloc (.cells (arrH h) 26);have hB:Blk (w.alloc (.cells (arrH h) 26)) w.heap.size 26 (arrH h):=Blk.new _ _ _;have HA:=zH hA;have FC:=zH (fun W=>scan_any k W)
 have HP:Hid (putH h=if canH h=true then fourS (1610612736+h.cls*1048576+h.lab).toNat++twoB h.len ++ [loB h.nxt,loB h.hop]++adB h.src++adB h.dst else []):=zH rfl;generalize putH h=pb at *;clear hA;by_cases hc:canH h=true
 ·have hp:=HP.out;rw[if_pos hc]at hp;have hce:canE h=0:=by unfold canE;rw[if_pos hc]
  rw[hce]at FC;obtain⟨c1,c2,c3,c4,c5⟩:=canH.at hc;obtain⟨N,a1,b1,hN,hsh,ho1,ho2,hw32⟩:=word_facts c1 c2;rw[hN]at hp;replace HP:=zH hp;have HW:=zH (And.intro hsh (And.intro ho1 (And.intro ho2 hw32)));have e1:=loB_eq h.nxt;have e2:=loB_eq h.hop
  have ps:((arrH h).toList.drop 5).take (adB h.src).length=(adB h.src).map byV:=adB_of k.src;have pd:((arrH h).toList.drop 21).take (adB h.dst).length=(adB h.dst).map byV:=adB_of k.dst;have HPs:=zH ps;have HPd:=zH pd;clear hp hce hc c1 c2 c3 c4 c5 hN hsh ho1 ho2 hw32 ps pd k
  go_enter Tryz.func217,Tryz.ntmps217
  go_wp2_with (first
   |(refine zl rfl 26 (.tmp 3) rfl hB rfl _ Tryz.underlying26 rfl infH ?_)
   |fail)
  refine (FC.out _).mono ?_;rintro e w1 ⟨rfl,hc1⟩;have hB1:=hB.chg hc1 (by simp);have HC1:=zH (HA.out.trans hc1);clear FC hB hc1 HA;have HO0:Hid (OwY w1 w1.heap.size (.slice none 0 0) []):=zH (OwY.nil _ _);have hlt:=hB1.lt;have c0:w1.cell? ⟨w.heap.size,0,none⟩=some (.int .i64 h.cls):=hB1.cell 0
  have c1:w1.cell? ⟨w.heap.size,1,none⟩=some (.int .i64 h.lab):=hB1.cell 1;have F1:=zH (put32_any HO0.out (by simp) (Nat.le_refl _) N);obtain⟨hsh,ho1,ho2,hw32⟩:=HW.out;clear HW;go_wp2_with fail;refine F1.out.mono ?_;rintro e w2 ⟨v2,rfl,hown2,hc2⟩;have hB2:=hB1.chg hc2 (by simp[Value.ownBlock])
  have HD2:=zH (hc2.more (T:=[]) (by simp[Value.ownBlock]));have hz2:=HD2.out.size;have d2:w2.cell? ⟨w.heap.size,2,none⟩=some (.int .i64 h.len):=hB2.cell 2;have F2:=zH (put16_own hown2 (by simp[fourS]) hz2 h.len);have hl2:=zH (own_lt hown2);clear F1 hsh ho1 ho2 hw32 c0 c1 hown2 hc2 hB1 HO0
  go_wp2_with fail;refine F2.out.mono ?_;rintro e w3 ⟨v3,rfl,hown3,hc3⟩;have hB3:=hB2.chg hc3 (fun hm=>by have:=(hl2.out _ hm).1;omega);have HD3:=zH (HD2.out.trans' hc3 (fun x hx=>.inr (hl2.out x hx).1));have hA4:=(Chg.refl [] w3).alloc (.cells #[byV (loB h.nxt),byV (loB h.hop)] 5)
  have hB4:=hB3.chg hA4 (by simp);have e3:w3.cell? ⟨w.heap.size,3,none⟩=some (.int .i64 h.nxt):=hB3.cell 3;have e4:w3.cell? ⟨w.heap.size,4,none⟩=some (.int .i64 h.hop):=hB3.cell 4;have HO4:=zH (own_chg hown3 hA4 (by simp))
  have HT4:Hid (Sl (w3.alloc (.cells #[byV (loB h.nxt),byV (loB h.hop)] 5)) 0 1 (.slice (some ⟨w3.heap.size,0,none⟩) 2 2) 2 ([loB h.nxt,loB h.hop].map byV)):=
   zH (Sl.of_own (own_lit (base:=0) w3 5 1 2 #[byV (loB h.nxt),byV (loB h.hop)] (Nat.zero_le _) (by simp[maxLen]) rfl))
  have HD4:=zH (HD3.out.trans hA4);have hz4:=HD4.out.size;have hl4:=zH (own_lt HO4.out);clear F2 hl2 hown3 hc3 hA4 HD3 HD2 hB2 hB3 d2;go_upto_region 6 with (first
   |(at_builtin;refine wpList_app elY rfl (.tmp 23) (.tmp 30) rfl w1.heap.size rfl HO4.out rfl HT4.out (byV_one _) (by simp[maxLen,fourS,twoB]) (by simp[fourS,twoB]) hz4 ?_;intro v5 w5 hown5 hc5 hb5)
   |fail)
  have hB5:=hB4.chg hc5 (fun hm=>by have:=(hl4.out _ hm).1;omega);have HD5:=zH (HD4.out.trans' hc5 (fun x hx=>.inr (hl4.out x hx).1));have hz5:=HD5.out.size;have HO5:=zH (OwY.snoc (m:=[loB h.nxt,loB h.hop]) rfl hown5);have HS5:=zH (sly_part hB5 HPs.out);have hl5:=zH (own_lt HO5.out)
  clear HO4 HT4 HD4 hl4 hB4 hc5 hown5 e3 e4 e1 e2;go_upto_region 7 with (first
   |(at_builtin;refine wpList_app elY rfl (.tmp 32) (.tmp 34) rfl w1.heap.size rfl HO5.out rfl HS5.out (byV_one _) (by simp[maxLen,fourS,twoB,adB_len]) (by simp[fourS,twoB,adB_len]) hz5 ?_;intro v6 w6 hown6 hc6 hb6)
   |fail)
  have hB6:=hB5.chg hc6 (fun hm=>by have:=(hl5.out _ hm).1;omega);have HD6:=zH (HD5.out.trans' hc6 (fun x hx=>.inr (hl5.out x hx).1));have hz6:=HD6.out.size;have HO6:=zH (OwY.snoc (m:=adB h.src) rfl hown6);have HS6:=zH (sly_part hB6 HPd.out);have hl6:=zH (own_lt HO6.out)
  clear HO5 HS5 HD5 hl5 hB5 hc6 hown6;go_wp2_with (first
   |(at_builtin;refine wpList_app elY rfl (.tmp 36) (.tmp 38) rfl w1.heap.size rfl HO6.out rfl HS6.out (byV_one _) (by simp[maxLen,fourS,twoB,adB_len]) (by simp[fourS,twoB,adB_len]) hz6 ?_;intro v7 w7 hown7 hc7 hb7)
   |fail)
  go_ret
  refine⟨v7,rfl,?_,HC1.out.trans ((HD6.out.trans' hc7 (fun x hx=>.inr (hl6.out x hx).1)))⟩;rw[HP.out];exact ownsRow_less (OwY.snoc (m:=adB h.dst) rfl hown7) HC1.out.size
 ·have hp:=HP.out;rw[if_neg hc]at hp;have hce:canE h=2:=by unfold canE;rw[if_neg hc]
  rw[hce]at FC;replace HP:=zH hp;clear hp hce hc;go_enter Tryz.func217,Tryz.ntmps217
  go_wp2_with (first
   |(refine zl rfl 26 (.tmp 3) rfl hB rfl _ Tryz.underlying26 rfl infH ?_)
   |fail)
  refine (FC.out _).mono ?_;rintro e w1 ⟨rfl,hc1⟩;go_wp2_with fail;go_ret
  exact⟨_,rfl,by rw[HP.out];exact OwY.nil _ _,HA.out.trans hc1⟩
end Go.Proofs.YtgbndaiifbogmaaGreat
namespace Go.Proofs.YtgbndaiifbogmaaGreat
open Go.RowKit Go.Maps
def HeadPost (x:Ans Hd) (e:Ending):Prop:=match x with
 |.error n=>e=panE n
 |.ok h=>e=.returned (.agg (arrH h))
theorem HeadPost.err {x:Ans Hd} {n:Int} (h:x=.error n):HeadPost x (panE n):=by subst h;rfl
theorem HeadPost.ok {x:Ans Hd} {h:Hd} (e:x=.ok h):HeadPost x (.returned (.agg (arrH h))):=by subst e;rfl
theorem headS_fine {b:By} {h:Hd} (k:headS b=.ok h) (hb:okB b):okA h.src∧okA h.dst∧40≤b.length∧getH b=.ok h∧h.len=(b.length:Int)-40:=by
 unfold headS at k;split at k
 ·cases k
 ·rename_i h' hh;split at k
  ·cases k
  ·rename_i hl;injection k with k
   subst k;obtain⟨a,b',c⟩:=getH_fine hh hb;exact⟨a,b',c,hh,by simpa using hl⟩
theorem headS_len {b:By} {h:Hd} (k:headS b=.ok h) (hb:okB b):b.length≤65575:=by
 obtain⟨_,_,_,hg,hl⟩:=headS_fine k hb;unfold getH at hg;split at hg
 ·cases hg
 ·split at hg
  ·cases hg
  ·injection hg with hg
   subst hg;have:=w2_lt hb 4;have e:(headOf b).len=(w2 b 4:Nat):=rfl;omega
theorem headS_err {b:By} {n:Int} (k:headS b=.error n):n≠0:=by
 unfold headS at k;split at k
 ·rename_i e he;injection k with k;subst k;exact getH_err he
 ·split at k
  ·injection k with k;omega
  ·cases k
theorem dhead_big {w:World} {B:Nat} {v:Value} {l:By} (h:SlY w B v l) (hb:okB l) (hl:l.length≤9223372036854775807) :
  Calls Tryz.prog 214 #[v] w fun e w'=>HeadPost (headS l) e∧Chg [] w w':=by
 obtain⟨A,c,rfl⟩:=h.form;have hA:=(Chg.refl [] w).alloc (.cells arrH0 26);have hB0:Blk (w.alloc (.cells arrH0 26)) w.heap.size 26 arrH0:=Blk.new _ _ _;have FG:=zH (sget_big (h.chg0 hA) hb hl)
 have HX:Hid (headS l=match getH l with | .error e=>.error e | .ok h=>if h.len≠(l.length:Int)-40 then .error 5 else .ok h):=zH rfl;have HE:=zH (fun n (hh:getH l=.error n)=>getH_err hh);unfold getV at FG;generalize headS l=x at *;generalize getH l=y at *;have HA:=zH hA;clear hA h hb
 go_enter Tryz.func214,Tryz.ntmps214
 go_wp2_with fail;refine FG.out.mono ?_;rintro e w1 ⟨rfl,hc1⟩;have hB1:=(hB0.chg hc1 (by simp)).alloc (.cells arrH0 26);have hBh:Blk (w1.alloc (.cells arrH0 26)) w1.heap.size 26 arrH0:=Blk.new _ _ _;have HC1:=zH ((HA.out.trans hc1).alloc (.cells arrH0 26));have hz1:=(HA.out.trans hc1).size
 have hlt:=(hB0.chg hc1 (by simp)).lt;clear FG hB0 HA hc1;cases y with
 |error n=>
  have hn:=HE.out n rfl;have hX:=zH HX.out;simp only at hX;have FM:=zH (fun W=>must_no hn W);clear HX HE hn;go_wp2_with (first
   |(refine zs (vs:=arrH0) rfl 26 (.tmp 3) (.tmp 8) rfl rfl hBh rfl rfl rfl infH0 rfl ?_;intro w2 hB2 hc2)
   |fail)
  refine (FM.out _).mono ?_;rintro e w3 ⟨rfl,rfl⟩;exact⟨rfl,HeadPost.err hX.out,HC1.out.trans' hc2 (zN (by omega))⟩
 |ok h=>
  have hX:=HX.out;simp only at hX;have hw:IntKind.i64.wrap ((l.length:Int)-40)=(l.length:Int)-40:=by rw[IntKind.wrap_i64];omega
  have FM:=zH (fun W=>must_ok W);clear HX HE;go_wp2_with (first
   |(refine zs (vs:=arrH h) rfl 26 (.tmp 3) (.tmp 8) rfl rfl hBh rfl rfl rfl infH rfl ?_;intro w2 hB2 hc2)
   |fail)
  refine (FM.out _).mono ?_;rintro e w3 ⟨rfl,hw3⟩;have hB12:=hB1.chg hc2 (by simp;omega);have HC2:=zH (HC1.out.trans' hc2 (zN (by omega)));rw[hw3]at hB2 hB12 HC2;clear hw3 hc2 hB1 hBh HC1 FM;have q2:w3.cell? ⟨w1.heap.size,2,none⟩=some (.int .i64 h.len):=hB2.cell 2
  by_cases hlen:h.len=(l.length:Int)-40
  ·rw[if_neg (by simpa using hlen)]at hX;replace hX:=zH hX;have hI:(h.len==(l.length:Int)-40)=true:=by simpa using hlen
   have FS:=zH (fun W=>so_ok 5 W);clear hlen;go_wp2_with fail;refine (FS.out _).mono ?_;rintro e w4 ⟨rfl,hw4⟩;rw[hw4]at hB2 hB12 HC2;clear hw4 FS q2;go_wp2_with (first
    |(refine zl rfl 26 (.tmp 3) rfl hB2 rfl _ Tryz.underlying26 rfl infH ?_)
    |(refine zs (vs:=arrH h) rfl 26 (.tmp 2) (.tmp 19) rfl rfl hB12 rfl rfl rfl infH rfl ?_;intro w5 hB5 hc5)
    |fail)
   refine bodyPost_ret (results_blk rfl rfl hB5 _ Tryz.underlying26 rfl infH) rfl ?_;exact⟨HeadPost.ok hX.out,HC2.out.trans' hc5 (zN (by omega))⟩
  ·rw[if_pos hlen]at hX;replace hX:=zH hX;have hI:(h.len==(l.length:Int)-40)=false:=by simpa using hlen
   have FS:=zH (fun W=>so_no 5 W);clear hlen;go_wp2_with fail;refine (FS.out _).mono ?_;rintro e w4 ⟨rfl,hw4⟩;rw[hw4]at HC2;exact⟨rfl,HeadPost.err hX.out,HC2.out⟩
theorem dhead_any {w:World} {B:Nat} {v:Value} {l:By} (h:SlY w B v l) (hb:okB l) (hl:l.length≤1000000):Calls Tryz.prog 214 #[v] w fun e w'=>HeadPost (headS l) e∧Chg [] w w':=dhead_big h hb (by omega)
end Go.Proofs.YtgbndaiifbogmaaGreat
namespace Go.Proofs.YtgbndaiifbogmaaGreat
open Go.RowKit Go.Maps
theorem results_cct {P:Program} {w:World} {g g':Nat} {e e':TypeId} {cs cs':Array Value} {fn:Func} {p q r:Tmp} {ty ty':TypeId} (h:fn.results=#[.cell p ty,.cell q ty',.tmp r]) {tmps:Array Value} (hp:tmps.getD p undef=.pointer (some ⟨g,0,none⟩)) (hq:tmps.getD q undef=.pointer (some ⟨g',0,none⟩)) (hb:Blk w g e cs) (hb':Blk w g' e' cs')
  (d d':TypeDesc) (hu:P.underlying ty=some d) (hu':P.underlying ty'=some d') (hd:d.isRow=true) (hd':d'.isRow=true) (hi:(P.info? ty).map (·.size)=some cs.size) (hi':(P.info? ty').map (·.size)=some cs'.size):(results fn tmps).run P w=.ok (.tuple #[.agg cs,.agg cs',tmps.getD r undef]) w:=by
 have hp':tmps[p]?.getD undef=.pointer (some ⟨g,0,none⟩):=by simpa using hp
 have hq':tmps[q]?.getD undef=.pointer (some ⟨g',0,none⟩):=by simpa using hq
 simp[results,h,hp',hq',asAddr,run_loadVar_blk hb ty d hu hd hi,run_loadVar_blk hb' ty' d' hu' hd' hi']
def RtdPost (x:Ans (Hd×Sr×Nat)) (B:Nat) (e:Ending) (w':World):Prop:=match x with
 |.error n=>e=panE n
 |.ok (h,s,n)=>∃sv A m c,e=.returned (.tuple #[.agg (arrH h),.agg (arrSr s sv (.slice A m c)),.int .i64 (n:Nat)])∧SlD w' B sv s.segs
theorem RtdPost.err {x:Ans (Hd×Sr×Nat)} {B:Nat} {w':World} {n:Int} (h:x=.error n):RtdPost x B (panE n) w':=by subst h;rfl
theorem routed_big {w:World} {v:Value} {l:By} (h:SlY w 0 v l) (hb:okB l) (hl:l.length≤9223372036854775807) :
  Calls Tryz.prog 167 #[v] w fun e w'=>RtdPost (routedS l) w.heap.size e w'∧Chg [] w w':=by
 obtain⟨A,c,rfl⟩:=h.form;have hA:=((Chg.refl [] w).alloc (.cells arrH0 26)).alloc (.cells arrS0 30);have hB0:Blk ((w.alloc (.cells arrH0 26)).alloc (.cells arrS0 30)) w.heap.size 26 arrH0:=(Blk.new _ _ _).alloc _
 have hS0:Blk ((w.alloc (.cells arrH0 26)).alloc (.cells arrS0 30)) (w.heap.size+1) 30 arrS0:=Blk.new' (by simp);have FH:=zH (dhead_big (h.chg0 hA) hb hl);have HX:Hid (routedS l=match headS l with
  |.error e=>.error e
  |.ok h=>if h.nxt≠43 then .error 7 else match srhS (l.drop 40) with | .error e=>.error e | .ok (s,n)=>.ok (h,s,n)):=zH rfl
 have HF:=zH (fun h (k:headS l=.ok h)=>And.intro (headS_fine k hb).2.2.1 (headS_len k hb));have HS:=zH (fun W (hc:Chg [] w W)=>h.chg0 hc);have HOK:=zH hb;generalize routedS l=x at *;generalize headS l=y at *;have HA:=zH hA;clear hA h hb;go_enter Tryz.func167,Tryz.ntmps167
 go_wp2_with fail;refine FH.out.mono ?_;rintro e w1 ⟨hp,hc1⟩;have hB1:=(hB0.chg hc1 (by simp)).alloc (.cells arrH0 26);have hS1:=(hS0.chg hc1 (by simp)).alloc (.cells arrH0 26);have hBh:Blk (w1.alloc (.cells arrH0 26)) w1.heap.size 26 arrH0:=Blk.new _ _ _;have HC0:=zH (HA.out.trans hc1)
 have HC1:=zH ((HA.out.trans hc1).alloc (.cells arrH0 26));have hlt:=(hS0.chg hc1 (by simp)).lt;clear FH hB0 hS0 HA hc1;cases y with
 |error n=>
  obtain rfl:e=_:=hp;have hX:=zH HX.out;simp only at hX;exact⟨rfl,RtdPost.err hX.out,HC0.out⟩
 |ok h=>
  obtain rfl:e=_:=hp;obtain⟨h40,hlS⟩:=HF.out h rfl;have hl:l.length≤1000000:=by omega
  clear hlS;have hX:=HX.out;simp only at hX;replace HX:=zH hX;clear hX HF HC0;by_cases hk:h.nxt=43
  ·have hX:=HX.out;rw[if_neg (by simpa using hk)]at hX;replace HX:=zH hX;have hI:(h.nxt==43)=true:=by simpa using hk
   have FS:=zH (fun W=>so_ok 7 W);clear hX hk;go_upto_region 2 with (first
    |(refine zs (vs:=arrH h) rfl 26 (.tmp 5) (.tmp 10) rfl rfl hBh rfl rfl rfl infH rfl ?_;intro w2 hB2 hc2)
    |fail)
   have hBr:=hB1.chg hc2 (by simp;omega);have hSr:=hS1.chg hc2 (by simp;omega);have HC2:=zH (HC1.out.trans' hc2 (zN (by omega)));have q3:w2.cell? ⟨w1.heap.size,3,none⟩=some (.int .i64 h.nxt):=hB2.cell 3;clear hB1 hS1 hBh hc2 HC1;go_wp2_with fail;refine (FS.out _).mono ?_;rintro e w3 ⟨rfl,hw3⟩
   rw[hw3]at hB2 hBr hSr HC2;have hl3:=hB2.lt;obtain⟨X,hXr,hXs⟩:=cutYf (HS.out w3 HC2.out) (lo:=40) h40;have hXr':∀W:World,(Instr.slice 22 (.slice A l.length c) (some (.int .i64 40)) none none).run Tryz.prog W=.ok (.slice X (l.length-40) (c-40)) W:=hXr
   have FP:=zH (srhp_any hXs (HOK.out.drop 40) (by rw[List.length_drop];omega));have HSE:=zH (fun n (k:srhS (l.drop 40)=.error n)=>srhS_err k);have hz3:=HC2.out.size;clear hw3 FS q3 hXr hXs HS HOK;go_wp2_with fail;refine FP.out.mono ?_;rintro e w4 ⟨hp,hc4⟩
   have hB4:=(hB2.chg hc4 (by simp)).alloc (.cells arrS0 30);have hBr4:=(hBr.chg hc4 (by simp)).alloc (.cells arrS0 30);have hSr4:=(hSr.chg hc4 (by simp)).alloc (.cells arrS0 30);have hBs:Blk (w4.alloc (.cells arrS0 30)) w4.heap.size 30 arrS0:=Blk.new _ _ _
   have HC4:=zH ((HC2.out.trans hc4).alloc (.cells arrS0 30));have hz4:=(HC2.out.trans hc4).size;have hlt4:=(hB2.chg hc4 (by simp)).lt;have hp':SrPost (srhS (l.drop 40)) w3.heap.size e w4:=hp;clear hp FP hB2 hBr hSr hc4 HC2;generalize srhS (l.drop 40)=y at *;cases y with
   |error n=>
    obtain rfl:e=_:=hp';have hn:=HSE.out n rfl;have hX:=HX.out;simp only at hX;replace hX:=zH hX;have FM:=zH (fun W=>must_no hn W);clear HX hn HSE;go_wp2_with (first
     |(refine zs (vs:=arrS0) rfl 30 (.tmp 6) (.tmp 19) rfl rfl hBs rfl rfl rfl infS0 rfl ?_;intro w5 hB5 hc5)
     |fail)
    refine (FM.out _).mono ?_;rintro e w6 ⟨rfl,rfl⟩;exact⟨rfl,RtdPost.err hX.out,HC4.out.trans' hc5 (zN (by omega))⟩
   |ok r=>
    obtain⟨s,n⟩:=r;obtain⟨sv,A5,m5,c5,rfl,hsd⟩:=hp';obtain⟨A6,c6,rfl⟩:=Sl.form hsd;have hX:=HX.out;simp only at hX;replace hX:=zH hX;have FM:=zH (fun W=>must_ok W);have HSD:=zH hsd;clear HX HSE hsd;generalize s.segs.length=sn at *;go_wp2_with (first
     |(refine zs (vs:=arrSr s (.slice A6 sn c6) (.slice A5 m5 c5)) rfl 30 (.tmp 6) (.tmp 19) rfl rfl hBs rfl rfl rfl infSr rfl ?_;intro w5 hB5 hc5)
     |fail)
    refine (FM.out _).mono ?_;rintro e w6 ⟨rfl,hw6⟩;have hB6:=hB4.chg hc5 (by simp;omega);have hBr6:=hBr4.chg hc5 (by simp;omega);have hSr6:=hSr4.chg hc5 (by simp;omega);have HC6:=zH (HC4.out.trans' hc5 (zN (by omega)))
    have HSD6:=zH (Sl.chg0 HSD.out (((Chg.refl [] w4).alloc (.cells arrS0 30)).trans' hc5 (zN (by omega))));rw[hw6]at hB5 hB6 hBr6 hSr6 HC6 HSD6;have hl1:=hBr6.lt;have hl2:=hB6.lt;have R0:=zH (fun W (hc:Chg [w.heap.size,w.heap.size+1] w6 W)=>(hB6.chg hc (by simp;omega)).rangeQ)
    have R1:=zH (fun W (hc:Chg [w.heap.size,w.heap.size+1] w6 W)=>(hB5.chg hc (by simp;omega)).rangeQ);have hD:Chg [w.heap.size,w.heap.size+1] w6 w6.drew:=(Chg.refl _ w6).drew;have HBR:=zH hBr6;have HSR:=zH hSr6;clear hw6 hc5 hB4 hBr4 hSr4 hBs HC4 HSD FM hB5 hB6 hBr6 hSr6;go_upto_region 5 with fail
    refine wp_region_held_drew (S:=fun W:World=>Chg [w.heap.size,w.heap.size+1] w6 W) (by kernel_rfl) hD (fun _=>?_);refine zT 0 rfl (yields_row (by rfl) 26 (.tmp 5) rfl w1.heap.size 0 rfl (arrH h) _ R0.out Tryz.underlying26 rfl infH) ?_
    try simp only[zP]
    refine zT 1 rfl (yields_row (by rfl) 30 (.tmp 6) rfl w4.heap.size 0 rfl (arrSr s (.slice A6 sn c6) (.slice A5 m5 c5)) _ R1.out Tryz.underlying30 rfl infSr) ?_
    try simp only[zP]
    refine zU 2 rfl (by go_simp<;>with_reducible rfl) ?_
    try simp only[zP]
    refine zR 3 rfl (fun K hK=>?_);refine step_store_blk (vs:=arrH h) rfl 26 (.tmp 2) (.tmp 24) rfl HBR.out.drew rfl rfl rfl infH rfl ?_;intro w7 hB7 hc7;have hC7:(fun W:World=>Chg [w.heap.size,w.heap.size+1] w6 W) w7:=hD.trans (hc7.more (by simp));have hS7:=HSR.out.drew.chg hc7 (by simp);clear hc7
    refine zB hK ?_;clear hK K
    try simp only[zP]
    refine zR 4 rfl (fun K hK=>?_);refine step_store_blk (vs:=arrSr s (.slice A6 sn c6) (.slice A5 m5 c5)) rfl 30 (.tmp 3) (.tmp 25) rfl hS7 rfl rfl rfl infSr rfl ?_;intro w8 hB8 hc8;have hC8:(fun W:World=>Chg [w.heap.size,w.heap.size+1] w6 W) w8:=Chg.trans hC7 (hc8.more (by simp))
    have hB78:=hB7.chg hc8 (by simp);clear hc8;refine zB hK ?_;clear hK K
    try simp only[zP]
    refine zU 5 rfl (by go_simp<;>with_reducible rfl) ?_
    try simp only[zP]
    refine wpAnyH_done (by kernel_rfl) ?_ _;have HC8:=zH (HC6.out.trans' hC8 (by intro x hx;simp at hx;right;omega));have HF8:=zH (Sl.less (Sl.chg HSD6.out hC8 (by intro x hx;simp at hx;omega)) (B':=w.heap.size) (by omega));clear hC7 hC8 hS7 hB7 R0 R1 hD HBR HSR;go_wp2_with fail
    refine bodyPost_ret (results_cct rfl rfl rfl hB78 hB8 _ _ Tryz.underlying26 Tryz.underlying30 rfl rfl infH infSr) rfl ?_;refine⟨?_,HC8.out⟩;rw[hX.out];exact⟨_,_,_,_,rfl,HF8.out⟩
  ·have hX:=HX.out;rw[if_pos hk]at hX;replace hX:=zH hX;have hI:(h.nxt==43)=false:=by simpa using hk
   have FS:=zH (fun W=>so_no 7 W);clear HX hk;go_upto_region 2 with (first
    |(refine zs (vs:=arrH h) rfl 26 (.tmp 5) (.tmp 10) rfl rfl hBh rfl rfl rfl infH rfl ?_;intro w2 hB2 hc2)
    |fail)
   have HC2:=zH (HC1.out.trans' hc2 (zN (by omega)));have q3:w2.cell? ⟨w1.heap.size,3,none⟩=some (.int .i64 h.nxt):=hB2.cell 3;clear hB1 hS1 hBh hc2 HC1;go_wp2_with fail;refine (FS.out _).mono ?_;rintro e w4 ⟨rfl,hw4⟩;rw[hw4]at HC2;exact⟨rfl,RtdPost.err hX.out,HC2.out⟩
theorem routed_any {w:World} {v:Value} {l:By} (h:SlY w 0 v l) (hb:okB l) (hl:l.length≤1000000):Calls Tryz.prog 167 #[v] w fun e w'=>RtdPost (routedS l) w.heap.size e w'∧Chg [] w w':=routed_big h hb (by omega)
theorem SlL.chg0 {w w':World} {B:Nat} {pv:Value} {vs:List Value} {Ls:List By} (h:SlL w B pv vs Ls) (hc:Chg [] w w'):SlL w' B pv vs Ls:=
 ⟨Sl.chg0 h.sl hc,h.len,fun i v l hv hl=>⟨(h.each i v l hv hl).1.chg0 hc,(h.each i v l hv hl).2⟩⟩
theorem wfH.withLen {h:Hd} (k:wfH h) {n:Nat} (hn:n≤1000000):wfH {h with len:=n}:=⟨k.cls,k.lab,wf64 (n:=(n:Int)) (by omega),k.nxt,k.hop,k.src,k.dst⟩
theorem joined_any {w:World} {h:Hd} (k:wfH h) {pv:Value} {vs:List Value} {Ls:List By} (hs:SlL w 0 pv vs Ls) (hn:vs.length≤1000) (ht:Ls.flatten.length≤1000000) :
  Calls Tryz.prog 169 #[.agg (arrH h),pv] w fun e w'=>∃v,e=.returned v∧OwY w' w.heap.size v (joinS h Ls.flatten)∧Chg [] w w':=by
 obtain⟨A0,c0,rfl⟩:=hs.sl.form;have hA:=(Chg.refl [] w).alloc (.cells (arrH h) 26);have hB:Blk (w.alloc (.cells (arrH h) 26)) w.heap.size 26 (arrH h):=Blk.new _ _ _;have FC:=zH (concat_any (hs.chg0 hA) hn ht);have HJ:Hid (joinS h Ls.flatten=putH {h with len:=Ls.flatten.length} ++ Ls.flatten):=zH rfl
 have HA:=zH hA;have hpl:(putH {h with len:=Ls.flatten.length}).length≤40:=by
  unfold putH;split
  ·simp[fourS,twoB,adB_len]
  ·simp
 have FP:=zH (fun W=>sput_any (k.withLen ht) W);clear hA hs hn k;generalize joinS h Ls.flatten=jb at *;generalize putH {h with len:=Ls.flatten.length} = pb at *;generalize Ls.flatten=r at *;generalize vs.length=m at *;go_enter Tryz.func169,Tryz.ntmps169
 go_wp2_with fail;refine FC.out.mono ?_;rintro e w1 ⟨v1,rfl,ho1,hc1⟩;obtain⟨A1,c1,rfl⟩:=(OwY.sl ho1).form;have hB1:=hB.chg hc1 (by simp);have HC1:=zH (HA.out.trans hc1);have q2:w1.cell? ⟨w.heap.size,2,none⟩=some (.int .i64 h.len):=hB1.cell 2;have f2:=hB1.frozen 2
 have hB2:Blk (w1.setCell ⟨w.heap.size,2,none⟩ (.int .i64 (r.length:Nat))) w.heap.size 26 (arrH {h with len:=r.length}):=hB1.set_ 2 _;have hc2:Chg [w.heap.size] w1 (w1.setCell ⟨w.heap.size,2,none⟩ (.int .i64 (r.length:Nat))):=(Chg.refl _ _).setCell (p:=⟨w.heap.size,2,none⟩) (.inl (by simp)) _
 have HO1:=zH (Sl.chg (OwY.sl ho1) hc2 (by intro x hx;simp at hx;subst hx;simp));have HC2:=zH (HC1.out.trans' hc2 (zN (by omega)));clear FC hB hc1 HA hB1 HC1 ho1 hc2;go_wp2_with (first
  |(refine zl rfl 26 (.tmp 2) rfl hB2 rfl _ Tryz.underlying26 rfl infH ?_)
  |fail)
 refine (FP.out _).mono ?_;rintro e w3 ⟨v3,rfl,ho3,hc3⟩;have HO3:=zH ho3;have HS3:=zH (Sl.chg0 HO1.out hc3);have HC3:=zH (HC2.out.trans hc3);have hl3:=zH (own_lt ho3);have hzb:=HC2.out.size;have hz3:=hc3.size;clear HO1 hB2 HC2 ho3 hc3 FP q2 f2;go_wp2_with (first
  |(at_builtin;refine wpList_app elY rfl (.tmp 12) (.tmp 13) rfl _ rfl HO3.out rfl HS3.out (byV_one _) (by unfold maxLen;omega) (by omega) hz3 ?_;intro v4 w4 hown4 hc4 hb4)
  |fail)
 go_ret
 refine⟨v4,rfl,?_,HC3.out.trans' hc4 (fun x hx=>.inr (by have:=(hl3.out x hx).1;omega))⟩;rw[HJ.out];exact ownsRow_less (OwY.snoc rfl hown4) hzb
end Go.Proofs.YtgbndaiifbogmaaGreat
