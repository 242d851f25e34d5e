/-
  Small laws and walks on the way to LearnReads: Qu, Qf, Qv, Qg, Rv37, Qh. Conditions: each theorem names its own.
-/
import Derived.Test.YtgbndaiifbogmaaGreatY17
import Derived.Test.YtgbndaiifbogmaaGreatY03
set_option linter.unusedVariables false
set_option linter.unusedSimpArgs false
set_option maxRecDepth 100000
set_option maxHeartbeats 8000000
namespace Go.Proofs.YtgbndaiifbogmaaGreat
open Go.RowKit Go.Maps
theorem unless_yes (n:Int) (w:World):Calls Tryz.prog 49 #[.bool true,.int .i64 n] w fun e w'=>e=.returned (.int .i64 0)∧w=w':=by
 go_enter Tryz.func49,Tryz.ntmps49
 go_wp2
 go_ret
 exact⟨rfl,rfl⟩
theorem unless_no (n:Int) (w:World):Calls Tryz.prog 49 #[.bool false,.int .i64 n] w fun e w'=>e=.returned (.int .i64 n)∧w=w':=by
 go_enter Tryz.func49,Tryz.ntmps49
 go_wp2
 go_ret
 exact⟨rfl,rfl⟩
def kindE (rt:Bool) (k:Int):Int:=if rt=true∧k=6 then 0 else 7
def formE (ok:Bool) (n d a:Int):Int:=if ok=true∧n=0∧d=6∧1≤a∧a≤65535 then 0 else 5
def leftE (l:Int):Int:=if l=1 then 0 else 5
theorem lk_any {w:World} {g:Nat} {p:Pm} (hB:Blk w g 38 (arrPk p)):Calls Tryz.prog 48 #[.pointer (some ⟨g,0,none⟩)] w fun e w'=>e=.returned (.int .i64 (kindE p.rt p.k))∧w=w':=by
 have c37:w.cell? ⟨g,37,none⟩=some (.bool p.rt):=hB.cell 37;have c60:w.cell? ⟨g,60,none⟩=some (.int .i64 p.k):=hB.cell 60;clear hB;generalize p.rt=r at *;generalize p.k=k at *;cases r with
 |false=>
  have HE:Hid (kindE false k=7):=zH (by simp[kindE]);go_enter Tryz.func48,Tryz.ntmps48
  go_wp2_with fail;refine (unless_no 7 w).mono ?_;rintro e w1 ⟨rfl,rfl⟩;go_wp2_with fail;go_ret
  exact⟨by rw[HE.out];rfl,rfl⟩
 |true=>
  by_cases hk:k=6
  ·have HE:Hid (kindE true k=0):=zH (by simp[kindE,hk]);have hI:(k==6)=true:=by simpa using hk
   clear hk;go_enter Tryz.func48,Tryz.ntmps48
   go_wp2_with fail;refine (unless_yes 7 w).mono ?_;rintro e w1 ⟨rfl,rfl⟩;go_wp2_with fail;go_ret
   exact⟨by rw[HE.out];rfl,rfl⟩
  ·have HE:Hid (kindE true k=7):=zH (by simp[kindE,hk]);have hI:(k==6)=false:=by simpa using hk
   clear hk;go_enter Tryz.func48,Tryz.ntmps48
   go_wp2_with fail;refine (unless_no 7 w).mono ?_;rintro e w1 ⟨rfl,rfl⟩;go_wp2_with fail;go_ret
   exact⟨by rw[HE.out];rfl,rfl⟩
theorem ll_any {w:World} {g:Nat} {p:Pm} (hB:Blk w g 38 (arrPk p)):Calls Tryz.prog 51 #[.pointer (some ⟨g,0,none⟩)] w fun e w'=>e=.returned (.int .i64 (leftE p.s.left))∧w=w':=by
 have c39:w.cell? ⟨g,39,none⟩=some (.int .i64 p.s.left):=hB.cell 39;clear hB;generalize p.s.left=k at *;by_cases hk:k=1
 ·have HE:Hid (leftE k=0):=zH (by simp[leftE,hk]);have hI:(k==1)=true:=by simpa using hk
  clear hk;go_enter Tryz.func51,Tryz.ntmps51
  go_wp2_with fail;refine (unless_yes 5 w).mono ?_;rintro e w1 ⟨rfl,rfl⟩;go_wp2_with fail;go_ret
  exact⟨by rw[HE.out];rfl,rfl⟩
 ·have HE:Hid (leftE k=5):=zH (by simp[leftE,hk]);have hI:(k==1)=false:=by simpa using hk
  clear hk;go_enter Tryz.func51,Tryz.ntmps51
  go_wp2_with fail;refine (unless_no 5 w).mono ?_;rintro e w1 ⟨rfl,rfl⟩;go_wp2_with fail;go_ret
  exact⟨by rw[HE.out];rfl,rfl⟩
theorem lf_any {w:World} {go gs:Nat} {ok:Bool} {n d a:Int} (co:w.cell? ⟨go,0,none⟩=some (.bool ok)) (c0:w.cell? ⟨gs,0,none⟩=some (.int .i64 n)) (c1:w.cell? ⟨gs,1,none⟩=some (.int .i64 d)) (c2:w.cell? ⟨gs,2,none⟩=some (.int .u32 a)) :
  Calls Tryz.prog 50 #[.pointer (some ⟨go,0,none⟩),.pointer (some ⟨gs,0,none⟩)] w fun e w'=>e=.returned (.int .i64 (formE ok n d a))∧w=w':=by
 by_cases hall:ok=true∧n=0∧d=6∧1≤a∧a≤65535
 ·have HE:Hid (formE ok n d a=0):=zH (by unfold formE;rw[if_pos hall]);obtain⟨rfl,hn,hd,h1,h2⟩:=hall;have i1:(n==0)=true:=by simpa using hn
  have i2:(d==6)=true:=by simpa using hd
  have i3:a≥1:=h1;clear hn hd;go_enter Tryz.func50,Tryz.ntmps50
  go_wp2_with fail;refine (unless_yes 5 w).mono ?_;rintro e w1 ⟨rfl,rfl⟩;go_wp2_with fail;go_ret
  exact⟨by rw[HE.out];rfl,rfl⟩
 ·have HE:Hid (formE ok n d a=5):=zH (by unfold formE;rw[if_neg hall]);have hcs:ok=false∨(ok=true∧(n==0)=false)∨(ok=true∧(n==0)=true∧(d==6)=false)∨(ok=true∧(n==0)=true∧(d==6)=true∧¬1≤a)∨(ok=true∧(n==0)=true∧(d==6)=true∧1≤a∧¬a≤65535):=by
   cases ok with
   |false=>exact .inl rfl
   |true=>
    refine .inr ?_;by_cases h1:n=0
    ·refine .inr ?_;have k1:(n==0)=true:=by simpa using h1
     by_cases h2:d=6
     ·have k2:(d==6)=true:=by simpa using h2
      refine .inr ?_;by_cases h3:1≤a
      ·exact .inr ⟨rfl,k1,k2,h3,fun h4=>hall ⟨rfl,h1,h2,h3,h4⟩⟩
      ·exact .inl ⟨rfl,k1,k2,h3⟩
     ·exact .inl ⟨rfl,k1,by simpa using h2⟩
    ·exact .inl ⟨rfl,by simpa using h1⟩
  clear hall;rcases hcs with rfl | ⟨rfl,i1⟩ | ⟨rfl,i1,i2⟩ | ⟨rfl,i1,i2,i3⟩ | ⟨rfl,i1,i2,i3,i4⟩
  all_goals
   go_enter Tryz.func50,Tryz.ntmps50
   go_wp2_with fail;refine (unless_no 5 w).mono ?_;rintro e w1 ⟨rfl,rfl⟩;go_wp2_with fail;go_ret
   exact⟨by rw[HE.out];rfl,rfl⟩
def firstE (a b c:Int):Int:=if a≠0 then a else if b≠0 then b else c
theorem lfirst_any {w:World} {g g3 go gs:Nat} {p:Pm} {ok:Bool} {n d a:Int} (hB:Blk w g 38 (arrPk p)) (co:w.cell? ⟨go,0,none⟩=some (.bool ok)) (c0:w.cell? ⟨gs,0,none⟩=some (.int .i64 n)) (c1:w.cell? ⟨gs,1,none⟩=some (.int .i64 d)) (c2:w.cell? ⟨gs,2,none⟩=some (.int .u32 a))
  (h0:w.cell? ⟨g3,0,none⟩=some (.func (.func 48) #[] #[.pointer (some ⟨g,0,none⟩)])) (h1:w.cell? ⟨g3,1,none⟩=some (.func (.func 50) #[] #[.pointer (some ⟨go,0,none⟩),.pointer (some ⟨gs,0,none⟩)])) (h2:w.cell? ⟨g3,2,none⟩=some (.func (.func 51) #[] #[.pointer (some ⟨g,0,none⟩)])) :
  Calls Tryz.prog 52 #[.slice (some ⟨g3,0,none⟩) 3 3] w fun e w'=>e=.returned (.int .i64 (firstE (kindE p.rt p.k) (formE ok n d a) (leftE p.s.left)))∧w=w':=by
 have F1:=zH (lk_any hB);have F2:=zH (lf_any co c0 c1 c2);have F3:=zH (ll_any hB);clear hB co c0 c1 c2;generalize kindE p.rt p.k=e1 at *;generalize formE ok n d a=e2 at *;generalize leftE p.s.left=e3 at *;have HF:Hid (firstE e1 e2 e3=if e1≠0 then e1 else if e2≠0 then e2 else e3):=zH rfl
 generalize firstE e1 e2 e3=r at *;go_enter Tryz.func52,Tryz.ntmps52
 go_wp2_with fail;refine wp_loop_rounds 4 ?_;rw[rounds_succ];go_wp2_with fail;refine F1.out.mono ?_;rintro e w1 ⟨rfl,rfl⟩;by_cases k1:e1=0
 case neg=>
  have hI:(e1 !=0)=true:=by simpa using k1
  have hr:=HF.out;rw[if_pos k1]at hr;replace hr:=zH hr;clear HF k1;go_wp2_with fail;go_ret
  exact⟨by rw[hr.out];rfl,rfl⟩
 have hr:=HF.out;rw[if_neg (by simpa using k1)]at hr;have HF2:=zH hr;subst k1;clear HF hr;go_wp2_with fail;rw[rounds_succ];go_wp2_with fail;refine F2.out.mono ?_;rintro e w1 ⟨rfl,rfl⟩;by_cases k1:e2=0
 case neg=>
  have hI:(e2 !=0)=true:=by simpa using k1
  have hr:=HF2.out;rw[if_pos k1]at hr;replace hr:=zH hr;clear HF2 k1;go_wp2_with fail;go_ret
  exact⟨by rw[hr.out];rfl,rfl⟩
 have hr:=HF2.out;rw[if_neg (by simpa using k1)]at hr;have HF3:=zH hr;subst k1;clear HF2 hr;go_wp2_with fail;rw[rounds_succ];go_wp2_with fail;refine F3.out.mono ?_;rintro e w1 ⟨rfl,rfl⟩;by_cases k1:e3=0
 case neg=>
  have hI:(e3 !=0)=true:=by simpa using k1
  clear k1;go_wp2_with fail;go_ret
  exact⟨by rw[HF3.out];rfl,rfl⟩
 subst k1;go_wp2_with fail;rw[rounds_succ];go_wp2_with fail;go_ret
 exact⟨by rw[HF3.out];rfl,rfl⟩
end Go.Proofs.YtgbndaiifbogmaaGreat
namespace Go.Proofs.YtgbndaiifbogmaaGreat
open Go.RowKit Go.Maps
theorem OwY.snoc {w:World} {B:Nat} {v:Value} {l m:By} {n:Nat} (hn:m.length=n) (h:w.ownsRow B 5 1 v (l.length+n) (l.map byV++m.map byV)):OwY w B v (l++m):=by
 unfold OwY;rw[List.length_append,List.map_append,hn];exact h
theorem sly_part {w:World} {g o:Nat} {t:TypeId} {cs:Array Value} {l:By} (h:Blk w g t cs) (e:(cs.toList.drop o).take l.length=l.map byV):SlY w 0 (.slice (some ⟨g,o,none⟩) l.length l.length) l:=by
 refine⟨by simp,_,_,rfl,Nat.le_refl _,fun _=>⟨g,o,rfl,Nat.zero_le _,fun j u hu=>?_⟩⟩;rw[h.cell];rw[←e]at hu;rw[List.getElem?_take]at hu;split at hu
 ·rw[List.getElem?_drop]at hu;simpa using hu
 ·cases hu
theorem or_word {x y:Nat} (k:Nat) (hx:x%2 ^ k=0) (hy:y<2 ^ k) (hs:x+y<4294967296):bits .or .i64 (x:Int) (y:Int)=((x+y:Nat):Int):=by
 have h1:(BitVec.ofInt 64 (x:Int)).toNat=x:=by
  rw[BitVec.ofInt_natCast,BitVec.toNat_ofNat];exact Nat.mod_eq_of_lt (by omega)
 have h2:(BitVec.ofInt 64 (y:Int)).toNat=y:=by
  rw[BitVec.ofInt_natCast,BitVec.toNat_ofNat];exact Nat.mod_eq_of_lt (by omega)
 show IntKind.i64.wrap ((BitVec.ofInt 64 (x:Int) ||| BitVec.ofInt 64 (y:Int)).toNat:Int)=_;rw[BitVec.toNat_or,h1,h2,nat_join k x y hx hy,IntKind.wrap_i64];omega
theorem adB_of {A:Ad} (h:okA A):encA A=(adB A).map byV:=(adB_enc h).symm
theorem join_any {w:World} {pv:Value} {vs:List Value} {Ls:List By} (h:SlL w 0 pv vs Ls) (hn:vs.length≤1000) (ht:Ls.flatten.length≤1000000) :
  Calls Tryz.prog 324 #[pv] w fun e w'=>∃v,e=.returned v∧OwY w' w.heap.size v Ls.flatten∧Chg [] w w':=by
 obtain⟨A,c,rfl⟩:=h.sl.form;have HA:Hid (∀k,k<vs.length→∃b o v l,A=some ⟨b,o,none⟩∧vs[k]?=some v∧Ls[k]?=some l∧(∀W,Chg [] w W→W.cell? ⟨b,o+k,none⟩=some v∧SlY W 0 v l)):=zH fun k hk=>by
  obtain⟨b,o,c',e,_,_,hc⟩:=Sl.at_ h.sl hk (by omega);simp only[Value.slice.injEq,true_and]at e;have hc0:=hc 0 (by omega);simp only[Nat.mul_one,Nat.add_zero]at hc0;have h1:vs[k]?=some vs[k]:=List.getElem?_eq_getElem hk;have h2:Ls[k]?=some (Ls[k]'(by rw[h.len];exact hk)):=List.getElem?_eq_getElem _
  exact⟨b,o,_,_,e.1,h1,h2,fun W hc=>⟨hc.cell (by rw[hc0,h1]) (by simp),(h.each k _ _ h1 h2).1.chg0 hc⟩⟩
 have HS:Hid (∀k l,Ls[k]?=some l→(Ls.take (k+1)).flatten=(Ls.take k).flatten++l):=zH fun k l hl=>flat_take_succ hl
 have HL:Hid (∀k,(Ls.take k).flatten.length≤1000000):=zH fun k=>by have:=flat_take_len Ls k;omega
 have HE:Hid (Ls.take vs.length=Ls):=zH (by rw[←h.len,List.take_length]);generalize vs.length=k at *;clear h ht;go_enter Tryz.func324,Tryz.ntmps324
 go_wp2_with fail;go_loopw [3,5,8] (fun vv _ iv wr=>∃j:Nat,j≤k∧iv=.int .i64 j∧Hid (OwY wr w.heap.size vv (Ls.take j).flatten)∧Hid (Chg [] w wr)) (fun _ _ iv _=>k-(intOf iv).toNat)
 case atStart=>exact⟨0,by omega,rfl,zH (OwY.nil _ _),zH (Chg.refl _ _)⟩
 case round=>
  obtain⟨j,hj,rfl,HO,HC⟩:=hrel;by_cases hlt:j<k
  ·obtain⟨b,o,v,l,rfl,hv,hl,hW⟩:=HA.out j hlt;obtain⟨hcell,hs⟩:=hW wr HC.out;obtain⟨A2,c2,rfl⟩:=hs.form;have hkI:(j:Int)<(k:Int):=by omega
   have hfl:=HS.out j l hl;have hL1:=HL.out (j+1);have HLL:=zH (And.intro hL1 (congrArg List.length hfl));have HFL:=zH hfl;have HSl:=zH hs;have hz:=HC.out.size;have hOl:=zH (own_lt HO.out);clear hfl hL1 hs hv hl hW HA HS HL HE;have hlen:(Ls.take j).flatten.length+l.length≤1000000:=by
    have:=HLL.out;rw[List.length_append]at this;omega
   go_wp2_with (first
    |(at_builtin;refine wpList_app elY rfl (.tmp 12) (.tmp 13) rfl w.heap.size rfl HO.out rfl HSl.out (byV_one _) (by unfold maxLen;omega) (by omega) hz ?_;intro v2 w2 hown2 hc2 hb2)
    |fail)
   go_round
   case rel=>exact⟨j+1,by omega,by go_num,zH (by rw[HFL.out];exact OwY.snoc rfl hown2),zH (HC.out.trans' hc2 (fun x hx=>.inr (hOl.out x hx).1))⟩
   case measure=>simp[intOf];omega
  ·obtain rfl:j=k:=by omega
   have he:=HE.out;have hjI:¬((j:Int)<(j:Int)):=by omega
   rw[he]at HO;clear hlt he HE HA HS HL;go_wp2_with fail;go_ret
   exact⟨_,rfl,HO.out,HC.out⟩
end Go.Proofs.YtgbndaiifbogmaaGreat
namespace Go.Proofs.YtgbndaiifbogmaaGreat
open Go.RowKit Go.Maps
@[reducible] def arrNo (f:Fl) (n:Int):Array Value:=#[.int .u8 f.src.a0,.int .u8 f.src.a1,.int .u8 f.src.a2,.int .u8 f.src.a3,.int .u8 f.src.a4,.int .u8 f.src.a5,.int .u8 f.src.a6,.int .u8 f.src.a7,.int .u8 f.src.a8,.int .u8 f.src.a9,.int .u8 f.src.a10,.int .u8 f.src.a11,.int .u8 f.src.a12,.int .u8 f.src.a13,.int .u8 f.src.a14,.int .u8 f.src.a15,.int .i64 f.sport,.int .u8 f.dst.a0,.int .u8 f.dst.a1,.int .u8 f.dst.a2,.int .u8 f.dst.a3,.int .u8 f.dst.a4,.int .u8 f.dst.a5,.int .u8 f.dst.a6,.int .u8 f.dst.a7,.int .u8 f.dst.a8,.int .u8 f.dst.a9,.int .u8 f.dst.a10,.int .u8 f.dst.a11,.int .u8 f.dst.a12,.int .u8 f.dst.a13,.int .u8 f.dst.a14,.int .u8 f.dst.a15,.int .i64 f.dport,.int .i64 n]
theorem infNo {f:Fl} {n:Int}:(Tryz.prog.info? 48).map (·.size)=some (arrNo f n).size:=by
 show _=some 35;kernel_rfl
theorem infSid {x y z:Int}:(Tryz.prog.info? 63).map (·.size)=some (#[Value.int .i64 x,.int .i64 y,.int .u32 z]).size:=by
 show _=some 3;kernel_rfl
def okSp:Option (Int×Int×Int)→Bool|some _=>true|none=>false
def numSp:Option (Int×Int×Int)→Int×Int×Int|some x=>x|none=>(0,0,0)
theorem spV_eq (o:Option (Int×Int×Int)):spV o=.tuple #[.agg #[.int .i64 (numSp o).1,.int .i64 (numSp o).2.1,.int .u32 (numSp o).2.2],.bool (okSp o)]:=by cases o<;>rfl
def errP (p:Pm):Int:=firstE (kindE p.rt p.k) (formE (okSp (splitA p.h.dst)) (numSp (splitA p.h.dst)).1 (numSp (splitA p.h.dst)).2.1 (numSp (splitA p.h.dst)).2.2) (leftE p.s.left)
def noteV (p:Pm):Value:=if errP p≠0 then .tuple #[.agg (arrNo fl0 0),.int .i64 (errP p)] else .tuple #[.agg (arrNo (backF (flP p)) (numSp (splitA p.h.dst)).2.2),.int .i64 0]
theorem errP_zero {p:Pm} (h:errP p=0):p.k=6∧1≤(numSp (splitA p.h.dst)).2.2∧(numSp (splitA p.h.dst)).2.2≤65535:=by
 unfold errP firstE at h;by_cases h1:p.rt=true∧p.k=6
 ·rw[kindE,if_pos h1]at h;rw[if_neg (by simp)]at h;by_cases h2:okSp (splitA p.h.dst)=true∧(numSp (splitA p.h.dst)).1=0∧(numSp (splitA p.h.dst)).2.1=6∧1≤(numSp (splitA p.h.dst)).2.2∧(numSp (splitA p.h.dst)).2.2≤65535
  ·exact⟨h1.2,h2.2.2.2.1,h2.2.2.2.2⟩
  ·rw[formE,if_neg h2]at h;rw[if_pos (by omega)]at h;omega
 ·rw[kindE,if_neg h1]at h;rw[if_pos (by omega)]at h;omega
theorem lread_any {p:Pm} (hd:okA p.h.dst) (ho:(arrPk p).toList.all (·.oneCell')=true) (w:World) :
  Calls Tryz.prog 12 #[.agg (arrPk p)] w fun e w'=>e=.returned (noteV p)∧Chg [] w w':=by
 have hmf:∀(fn:Fn) (first cap:Array Value) (w:World),(Instr.makeFunc fn first cap).run Tryz.prog w=.ok (.func fn first cap) w:=fun _ _ _ _=>rfl
 have hA:=((Chg.refl [] w).alloc (.cells (arrPk p) 38)).alloc (.cells (arrNo fl0 0) 48);have hB:Blk ((w.alloc (.cells (arrPk p) 38)).alloc (.cells (arrNo fl0 0) 48)) w.heap.size 38 (arrPk p):=(Blk.new _ _ _).alloc _
 have hBn:Blk ((w.alloc (.cells (arrPk p) 38)).alloc (.cells (arrNo fl0 0) 48)) (w.heap.size+1) 48 (arrNo fl0 0):=Blk.new' (by simp);have FS:=zH (fun W=>ssplit_any hd W);have HA:=zH hA
 have HV:Hid (noteV p=if errP p≠0 then .tuple #[.agg (arrNo fl0 0),.int .i64 (errP p)] else .tuple #[.agg (arrNo (backF (flP p)) (numSp (splitA p.h.dst)).2.2),.int .i64 0]):=zH rfl
 have HEr:Hid (firstE (kindE p.rt p.k) (formE (okSp (splitA p.h.dst)) (numSp (splitA p.h.dst)).1 (numSp (splitA p.h.dst)).2.1 (numSp (splitA p.h.dst)).2.2) (leftE p.s.left)=errP p):=zH rfl;have HE0:=zH (fun h=>errP_zero (p:=p) h);rw[spV_eq]at FS;generalize okSp (splitA p.h.dst)=ok at *
 generalize (numSp (splitA p.h.dst)).1=n at *;generalize (numSp (splitA p.h.dst)).2.1=d at *;generalize (numSp (splitA p.h.dst)).2.2=a at *;generalize errP p=er at *;generalize noteV p=nv at *;clear hA hd;go_enter Tryz.func12,Tryz.ntmps12
 go_wp2_with (first
  |(refine wpList_load_part (vs:=arrA p.h.dst) rfl 24 (.tmp 14) rfl hB 21 rfl _ Tryz.underlying24 rfl infAd (pk_dst p) ?_)
  |fail)
 refine (FS.out _).mono ?_;rintro e w1 ⟨rfl,hc1⟩;have hz1:=hc1.size;have hBs:Blk ((w1.alloc (.cells #[.int .i64 0,.int .i64 0,.int .u32 0] 63)).alloc (.cells #[.bool false] 4)) w1.heap.size 63 #[.int .i64 0,.int .i64 0,.int .u32 0]:=(Blk.new _ _ _).alloc _
 have hBb:Blk ((w1.alloc (.cells #[.int .i64 0,.int .i64 0,.int .u32 0] 63)).alloc (.cells #[.bool false] 4)) (w1.heap.size+1) 4 #[.bool false]:=Blk.new' (by simp);have hP1:=((hB.chg hc1 (by simp)).alloc (.cells #[.int .i64 0,.int .i64 0,.int .u32 0] 63)).alloc (.cells #[.bool false] 4)
 have hN1:=((hBn.chg hc1 (by simp)).alloc (.cells #[.int .i64 0,.int .i64 0,.int .u32 0] 63)).alloc (.cells #[.bool false] 4);have HC1:=zH (((HA.out.trans hc1).alloc (.cells #[.int .i64 0,.int .i64 0,.int .u32 0] 63)).alloc (.cells #[.bool false] 4));have hlt:=(hBn.chg hc1 (by simp)).lt
 clear hB hBn hc1 FS HA;go_upto_region 2 with (first
  |(refine zs (vs:=#[.int .i64 n,.int .i64 d,.int .u32 a]) rfl 63 (.tmp 4) (.tmp 17) rfl rfl hBs rfl rfl rfl infSid rfl ?_;intro w2 hB2 hc2;have hbb2:=hBb.chg hc2 (by simp);have cb:w2.cell? ⟨w1.heap.size+1,0,none⟩=some (.bool false):=hbb2.cell 0;have fb:=hbb2.frozen 0)
  |fail)
 obtain⟨w3,hw3⟩:∃w3,w3=w2.setCell ⟨w1.heap.size+1,0,none⟩ (.bool ok):=⟨_,rfl⟩;have hc3:Chg [w1.heap.size+1] w2 w3:=by rw[hw3];exact (Chg.refl _ _).setCell (p:=⟨w1.heap.size+1,0,none⟩) (.inl (by simp)) _
 have hb3:Blk w3 (w1.heap.size+1) 4 #[.bool ok]:=by rw[hw3];exact hbb2.set_ 0 (.bool ok)
 have hS3:=hB2.chg hc3 (by simp);have hP3:=(hP1.chg hc2 (by simp;omega)).chg hc3 (by simp;omega);have hN3:=(hN1.chg hc2 (by simp;omega)).chg hc3 (by simp;omega);have HC3:=zH ((HC1.out.trans' hc2 (zN (by omega))).trans' hc3 (zN (by omega)));rw[←hw3];have hg3:=hb3.lt
 clear hw3 cb fb hbb2 hBs hBb hP1 hN1 HC1 hB2 hc2 hc3
 have hc4:=(Chg.refl [] w3).alloc (.cells #[.func (.func 48) #[] #[.pointer (some ⟨w.heap.size,0,none⟩)],.func (.func 50) #[] #[.pointer (some ⟨w1.heap.size+1,0,none⟩),.pointer (some ⟨w1.heap.size,0,none⟩)],.func (.func 51) #[] #[.pointer (some ⟨w.heap.size,0,none⟩)]] 137)
 have hF:Blk (w3.alloc (.cells #[.func (.func 48) #[] #[.pointer (some ⟨w.heap.size,0,none⟩)],.func (.func 50) #[] #[.pointer (some ⟨w1.heap.size+1,0,none⟩),.pointer (some ⟨w1.heap.size,0,none⟩)],.func (.func 51) #[] #[.pointer (some ⟨w.heap.size,0,none⟩)]] 137)) w3.heap.size 137 _:=Blk.new _ _ _
 have FF:=zH (lfirst_any (hP3.chg hc4 (by simp)) ((hb3.chg hc4 (by simp)).cell 0) ((hS3.chg hc4 (by simp)).cell 0) ((hS3.chg hc4 (by simp)).cell 1) ((hS3.chg hc4 (by simp)).cell 2) (hF.cell 0) (hF.cell 1) (hF.cell 2));rw[HEr.out]at FF;have hP4:=hP3.chg hc4 (by simp);have hN4:=hN3.chg hc4 (by simp)
 have hS4:=hS3.chg hc4 (by simp);have HC4:=zH (HC3.out.trans hc4);clear hc4 hF hP3 hN3 hS3 hb3 HC3 HEr;go_wp2_with fail;refine FF.out.mono ?_;rintro e w4 ⟨rfl,hw4⟩;rw[hw4]at hP4 hN4 hS4 HC4;clear hw4 FF;by_cases he:er=0
 case neg=>
  have hI:(er !=0)=true:=by simpa using he
  have hv:=HV.out;rw[if_pos he]at hv;replace hv:=zH hv;clear HV HE0 he hP4 hS4;go_wp2_with (first
   |(refine zs (vs:=arrNo fl0 0) rfl 48 (.tmp 2) (.tmp 29) rfl rfl hN4 rfl rfl rfl infNo rfl ?_;intro w5 hB5 hc5)
   |fail)
  refine bodyPost_ret (zr rfl rfl hB5 _ Tryz.underlying48 rfl infNo) rfl ?_;exact⟨by rw[hv.out];rfl,HC4.out.trans' hc5 (zN (by omega))⟩
 have hv:=HV.out;rw[if_neg (by simpa using he)]at hv;replace hv:=zH hv;obtain⟨hk6,ha1,ha2⟩:=HE0.out he;have hI:(er !=0)=false:=by simpa using he
 have HOF:=zH (fof_any p);have hof:ofV p=.tuple #[.agg (arrF (flP p)),.bool true]:=by unfold ofV;rw[if_pos hk6]
 rw[hof]at HOF;have HBK:=zH (fback_any (flP p));have hwa:IntKind.i64.wrap a=a:=by rw[IntKind.wrap_i64];omega
 clear HV HE0 he hof hk6;go_wp2_with (first
  |(refine zl rfl 38 (.tmp 1) rfl hP4 rfl _ Tryz.underlying38 rfl infPk ?_)
  |fail)
 refine (HOF.out _).mono ?_;rintro e w5 ⟨rfl,hc5⟩;have hc6:=hc5.alloc (.cells (arrF fl0) 46);have hN6:=hN4.chg hc6 (by simp);have hS6:=hS4.chg hc6 (by simp);have hB6:Blk (w5.alloc (.cells (arrF fl0) 46)) w5.heap.size 46 (arrF fl0):=Blk.new _ _ _;have HC6:=zH (HC4.out.trans hc6);have hz5:=hc5.size
 have hn4:=hN4.lt;have hs4:=hS4.lt;clear hc5 hc6 hN4 hS4 hP4 HC4 HOF;go_upto_region 9 with (first
  |(refine zs (vs:=arrF (flP p)) rfl 46 (.tmp 10) (.tmp 34) rfl rfl hB6 rfl rfl rfl infF rfl ?_;intro w7 hB7 hc7)
  |fail)
 have hN7:=hN6.chg hc7 (by simp;omega);have hS7:=hS6.chg hc7 (by simp;omega);have HC7:=zH (HC6.out.trans' hc7 (zN (by omega)));have hS37:=hS7.lt;have R0:=zH (fun W (hc:Chg [w.heap.size+1] w7 W)=>(hB7.chg hc (by simp;omega)).rangeQ)
 have S3:=zH (fun W (hc:Chg [w.heap.size+1] w7 W)=>(hS7.chg hc (by simp;omega)).cell 2);have hD:Chg [w.heap.size+1] w7 w7.drew:=(Chg.refl _ w7).drew;have HNN:=zH hN7;clear hB6 hN6 hS6 hc7 HC6 hN7;refine wp_region_held_drew (S:=fun W:World=>Chg [w.heap.size+1] w7 W) (by kernel_rfl) hD (fun _=>?_)
 refine zT 0 rfl (yields_row (by rfl) 46 (.tmp 10) rfl w5.heap.size 0 rfl (arrF (flP p)) _ R0.out Tryz.underlying46 rfl infF) ?_
 try simp only[zP]
 refine zU 2 rfl (by go_simp<;>with_reducible rfl) ?_
 try simp only[zP]
 refine zT 3 rfl (zc (by rfl) 31 (.tmp 38) rfl w1.heap.size 2 rfl (.int .u32 a) _ S3.out Tryz.underlying31 rfl) ?_
 try simp only[zP]
 refine zU 4 rfl (by go_simp<;>with_reducible rfl) ?_
 try simp only[zP]
 refine zR 1 rfl (fun K hK=>?_);go_simp
 refine (HBK.out _).mono ?_;rintro e w8 ⟨rfl,hc8⟩;have hC8:(fun W:World=>Chg [w.heap.size+1] w7 W) w8:=hD.trans (hc8.more (by simp));have hN8:=HNN.out.chg ((Chg.refl [] w7).drew.trans hc8) (by simp);have HC8:=zH (HC7.out.trans ((Chg.refl [] w7).drew.trans hc8));clear hc8 HC7 hB7 hS7 HNN
 refine zB hK ?_;clear hK K
 try simp only[zP]
 refine zU 5 rfl (by go_simp<;>with_reducible rfl) ?_
 try simp only[zP]
 refine zR 6 rfl (fun K hK=>?_);refine step_store_blk (vs:=arrNo (backF (flP p)) a) rfl 48 (.tmp 2) (.tmp 41) rfl hN8 rfl rfl rfl infNo rfl ?_;intro w9 hN9 hc9;have hC9:(fun W:World=>Chg [w.heap.size+1] w7 W) w9:=hC8.trans hc9;have HC9:=zH (HC8.out.trans' hc9 (zN (by omega)));refine zB hK ?_
 clear hK K
 try simp only[zP]
 refine zU 7 rfl (by go_simp<;>with_reducible rfl) ?_
 try simp only[zP]
 refine wpAnyH_done (by kernel_rfl) ?_ _;clear hC8 hC9 hc9 hD R0 S3 hN8;go_wp2_with fail;refine bodyPost_ret (zr rfl rfl hN9 _ Tryz.underlying48 rfl infNo) rfl ?_;exact⟨by rw[hv.out];rfl,HC9.out⟩
end Go.Proofs.YtgbndaiifbogmaaGreat
namespace Go.Proofs.YtgbndaiifbogmaaGreat
open Go.RowKit Go.Maps
theorem word_facts {c l:Int} (h1:0≤c∧c≤255) (h2:0≤l∧l≤1048575) :
  ∃(N:Nat) (a b:Int),(1610612736+c*1048576+l).toNat=N∧IntKind.i64.wrap (c*1048576)=a∧bits .or .i64 1610612736 a=b∧bits .or .i64 b l=(N:Int)∧IntKind.u32.wrap (N:Int)=(N:Int):=by
 obtain⟨x1,rfl⟩:∃x:Nat,c=(x:Int):=⟨c.toNat,by omega⟩;obtain⟨x2,rfl⟩:∃x:Nat,l=(x:Int):=⟨l.toNat,by omega⟩
 refine⟨1610612736+x1*1048576+x2,((x1*1048576:Nat):Int),((1610612736+x1*1048576:Nat):Int),by omega,by rw[IntKind.wrap_i64];omega,or_word (x:=1610612736) (y:=x1*1048576) 28 (by omega) (by omega) (by omega),or_word (x:=1610612736+x1*1048576) (y:=x2) 20 (by omega) (by omega) (by omega),by rw[IntKind.wrap_u32'];omega⟩
theorem sput_any {h:Hd} (k:wfH h) (w:World):Calls Tryz.prog 217 #[.slice none 0 0,.agg (arrH h)] w fun e w'=>∃v,e=.returned v∧OwY w' w.heap.size v (putH h)∧Chg [] w w':=by
 have hA:=(Chg.refl [] w).alloc (.cells (arrH h) 26);have hB:Blk (w.alloc (.cells (arrH h) 26)) w.heap.size 26 (arrH h):=Blk.new _ _ _;have HA:=zH hA;have FC:=zH (fun W=>scan_any k W)
 have HP:Hid (putH h=if canH h=true then fourS (1610612736+h.cls*1048576+h.lab).toNat++twoB h.len ++ [loB h.nxt,loB h.hop]++adB h.src++adB h.dst else []):=zH rfl;generalize putH h=pb at *;clear hA;by_cases hc:canH h=true
 ·have hp:=HP.out;rw[if_pos hc]at hp;have hce:canE h=0:=by unfold canE;rw[if_pos hc]
  rw[hce]at FC;obtain⟨c1,c2,c3,c4,c5⟩:=canH.at hc;obtain⟨N,a1,b1,hN,hsh,ho1,ho2,hw32⟩:=word_facts c1 c2;rw[hN]at hp;replace HP:=zH hp;have HW:=zH (And.intro hsh (And.intro ho1 (And.intro ho2 hw32)));have e1:=loB_eq h.nxt;have e2:=loB_eq h.hop
  have ps:((arrH h).toList.drop 5).take (adB h.src).length=(adB h.src).map byV:=adB_of k.src;have pd:((arrH h).toList.drop 21).take (adB h.dst).length=(adB h.dst).map byV:=adB_of k.dst;have HPs:=zH ps;have HPd:=zH pd;clear hp hce hc c1 c2 c3 c4 c5 hN hsh ho1 ho2 hw32 ps pd k
  go_enter Tryz.func217,Tryz.ntmps217
  go_wp2_with (first
   |(refine zl rfl 26 (.tmp 3) rfl hB rfl _ Tryz.underlying26 rfl infH ?_)
   |fail)
  refine (FC.out _).mono ?_;rintro e w1 ⟨rfl,hc1⟩;have hB1:=hB.chg hc1 (by simp);have HC1:=zH (HA.out.trans hc1);clear FC hB hc1 HA;have HO0:Hid (OwY w1 w1.heap.size (.slice none 0 0) []):=zH (OwY.nil _ _);have hlt:=hB1.lt;have c0:w1.cell? ⟨w.heap.size,0,none⟩=some (.int .i64 h.cls):=hB1.cell 0
  have c1:w1.cell? ⟨w.heap.size,1,none⟩=some (.int .i64 h.lab):=hB1.cell 1;have F1:=zH (put32_any HO0.out (by simp) (Nat.le_refl _) N);obtain⟨hsh,ho1,ho2,hw32⟩:=HW.out;clear HW;go_wp2_with fail;refine F1.out.mono ?_;rintro e w2 ⟨v2,rfl,hown2,hc2⟩;have hB2:=hB1.chg hc2 (by simp[Value.ownBlock])
  have HD2:=zH (hc2.more (T:=[]) (by simp[Value.ownBlock]));have hz2:=HD2.out.size;have d2:w2.cell? ⟨w.heap.size,2,none⟩=some (.int .i64 h.len):=hB2.cell 2;have F2:=zH (put16_own hown2 (by simp[fourS]) hz2 h.len);have hl2:=zH (own_lt hown2);clear F1 hsh ho1 ho2 hw32 c0 c1 hown2 hc2 hB1 HO0
  go_wp2_with fail;refine F2.out.mono ?_;rintro e w3 ⟨v3,rfl,hown3,hc3⟩;have hB3:=hB2.chg hc3 (fun hm=>by have:=(hl2.out _ hm).1;omega);have HD3:=zH (HD2.out.trans' hc3 (fun x hx=>.inr (hl2.out x hx).1));have hA4:=(Chg.refl [] w3).alloc (.cells #[byV (loB h.nxt),byV (loB h.hop)] 5)
  have hB4:=hB3.chg hA4 (by simp);have e3:w3.cell? ⟨w.heap.size,3,none⟩=some (.int .i64 h.nxt):=hB3.cell 3;have e4:w3.cell? ⟨w.heap.size,4,none⟩=some (.int .i64 h.hop):=hB3.cell 4;have HO4:=zH (own_chg hown3 hA4 (by simp))
  have HT4:Hid (Sl (w3.alloc (.cells #[byV (loB h.nxt),byV (loB h.hop)] 5)) 0 1 (.slice (some ⟨w3.heap.size,0,none⟩) 2 2) 2 ([loB h.nxt,loB h.hop].map byV)):=
   zH (Sl.of_own (own_lit (base:=0) w3 5 1 2 #[byV (loB h.nxt),byV (loB h.hop)] (Nat.zero_le _) (by simp[maxLen]) rfl))
  have HD4:=zH (HD3.out.trans hA4);have hz4:=HD4.out.size;have hl4:=zH (own_lt HO4.out);clear F2 hl2 hown3 hc3 hA4 HD3 HD2 hB2 hB3 d2;go_upto_region 6 with (first
   |(at_builtin;refine wpList_app elY rfl (.tmp 23) (.tmp 30) rfl w1.heap.size rfl HO4.out rfl HT4.out (byV_one _) (by simp[maxLen,fourS,twoB]) (by simp[fourS,twoB]) hz4 ?_;intro v5 w5 hown5 hc5 hb5)
   |fail)
  have hB5:=hB4.chg hc5 (fun hm=>by have:=(hl4.out _ hm).1;omega);have HD5:=zH (HD4.out.trans' hc5 (fun x hx=>.inr (hl4.out x hx).1));have hz5:=HD5.out.size;have HO5:=zH (OwY.snoc (m:=[loB h.nxt,loB h.hop]) rfl hown5);have HS5:=zH (sly_part hB5 HPs.out);have hl5:=zH (own_lt HO5.out)
  clear HO4 HT4 HD4 hl4 hB4 hc5 hown5 e3 e4 e1 e2;go_upto_region 7 with (first
   |(at_builtin;refine wpList_app elY rfl (.tmp 32) (.tmp 34) rfl w1.heap.size rfl HO5.out rfl HS5.out (byV_one _) (by simp[maxLen,fourS,twoB,adB_len]) (by simp[fourS,twoB,adB_len]) hz5 ?_;intro v6 w6 hown6 hc6 hb6)
   |fail)
  have hB6:=hB5.chg hc6 (fun hm=>by have:=(hl5.out _ hm).1;omega);have HD6:=zH (HD5.out.trans' hc6 (fun x hx=>.inr (hl5.out x hx).1));have hz6:=HD6.out.size;have HO6:=zH (OwY.snoc (m:=adB h.src) rfl hown6);have HS6:=zH (sly_part hB6 HPd.out);have hl6:=zH (own_lt HO6.out)
  clear HO5 HS5 HD5 hl5 hB5 hc6 hown6;go_wp2_with (first
   |(at_builtin;refine wpList_app elY rfl (.tmp 36) (.tmp 38) rfl w1.heap.size rfl HO6.out rfl HS6.out (byV_one _) (by simp[maxLen,fourS,twoB,adB_len]) (by simp[fourS,twoB,adB_len]) hz6 ?_;intro v7 w7 hown7 hc7 hb7)
   |fail)
  go_ret
  refine⟨v7,rfl,?_,HC1.out.trans ((HD6.out.trans' hc7 (fun x hx=>.inr (hl6.out x hx).1)))⟩;rw[HP.out];exact ownsRow_less (OwY.snoc (m:=adB h.dst) rfl hown7) HC1.out.size
 ·have hp:=HP.out;rw[if_neg hc]at hp;have hce:canE h=2:=by unfold canE;rw[if_neg hc]
  rw[hce]at FC;replace HP:=zH hp;clear hp hce hc;go_enter Tryz.func217,Tryz.ntmps217
  go_wp2_with (first
   |(refine zl rfl 26 (.tmp 3) rfl hB rfl _ Tryz.underlying26 rfl infH ?_)
   |fail)
  refine (FC.out _).mono ?_;rintro e w1 ⟨rfl,hc1⟩;go_wp2_with fail;go_ret
  exact⟨_,rfl,by rw[HP.out];exact OwY.nil _ _,HA.out.trans hc1⟩
end Go.Proofs.YtgbndaiifbogmaaGreat
namespace Go.Proofs.YtgbndaiifbogmaaGreat
open Go.RowKit Go.Maps
def gistV (p:Pm):Value:=if errP p≠0 then .tuple #[.agg (arrF fl0),.int .i64 0,.int .i64 (errP p)] else .tuple #[.agg (arrF (backF (flP p))),.int .i64 (numSp (splitA p.h.dst)).2.2,.int .i64 0]
theorem rsplit_sp {A:Ad} (hA:okA A) (w:World):Calls Tryz.prog 55 #[.agg (arrA A)] w fun e w'=>e=.returned (spV (splitA A))∧Chg [] w w':=by
 rw[←splitV_sp];exact Vs.rsplit_any hA w
theorem sp_nonneg {A:Ad} (hA:okA A):0≤(numSp (splitA A)).2.2:=by
 have b:=(Vs.okA.bd hA);have h12:=b.h12;have h13:=b.h13;have h14:=b.h14;have h15:=b.h15;unfold splitA;split
 ·simp only[numSp];omega
 ·simp[numSp]
theorem rread_any {p:Pm} (hd:okA p.h.dst) (ho:(arrPk p).toList.all (·.oneCell')=true) (w:World) :
  Calls Tryz.prog 13 #[.agg (arrPk p)] w fun e w'=>e=.returned (gistV p)∧Chg [] w w':=by
 have hA:=((Chg.refl [] w).alloc (.cells (arrPk p) 42)).alloc (.cells (arrF fl0) 46);have hB:Blk ((w.alloc (.cells (arrPk p) 42)).alloc (.cells (arrF fl0) 46)) w.heap.size 42 (arrPk p):=(Blk.new _ _ _).alloc _
 have hBn:Blk ((w.alloc (.cells (arrPk p) 42)).alloc (.cells (arrF fl0) 46)) (w.heap.size+1) 46 (arrF fl0):=Blk.new' (by simp);have FS:=zH (fun W=>rsplit_sp hd W);have HA:=zH hA
 have HV:Hid (gistV p=if errP p≠0 then .tuple #[.agg (arrF fl0),.int .i64 0,.int .i64 (errP p)] else .tuple #[.agg (arrF (backF (flP p))),.int .i64 (numSp (splitA p.h.dst)).2.2,.int .i64 0]):=zH rfl
 have HEr:Hid (firstE (kindE p.rt p.k) (formE (okSp (splitA p.h.dst)) (numSp (splitA p.h.dst)).1 (numSp (splitA p.h.dst)).2.1 (numSp (splitA p.h.dst)).2.2) (leftE p.s.left)=errP p):=zH rfl;have HNN:=zH (sp_nonneg hd);rw[spV_eq]at FS
 have c37:((w.alloc (.cells (arrPk p) 42)).alloc (.cells (arrF fl0) 46)).cell? ⟨w.heap.size,37,none⟩=some (.bool p.rt):=hB.cell 37;have c60:((w.alloc (.cells (arrPk p) 42)).alloc (.cells (arrF fl0) 46)).cell? ⟨w.heap.size,60,none⟩=some (.int .i64 p.k):=hB.cell 60
 generalize okSp (splitA p.h.dst)=ok at *;generalize (numSp (splitA p.h.dst)).1=n at *;generalize (numSp (splitA p.h.dst)).2.1=d at *;generalize (numSp (splitA p.h.dst)).2.2=a at *;generalize errP p=er at *;generalize gistV p=nv at *;clear hA hd;by_cases hkk:p.rt=true∧p.k=6
 case neg=>
  have he:er=7:=by rw[←HEr.out,firstE,kindE,if_neg hkk];simp
  have hv:=HV.out;rw[if_pos (by omega),he]at hv;replace hv:=zH hv;have hcs:p.rt=false∨(p.rt=true∧(p.k !=6)=true):=by
   cases hr:p.rt
   ·exact .inl rfl
   ·exact .inr ⟨rfl,by simpa[hr]using hkk⟩
  clear HV HEr HNN FS hkk hB he;rcases hcs with hr | ⟨hr,hk⟩
  all_goals
   rw[hr]at c37;clear hr;generalize p.k=k at *;go_enter Tryz.func13,Tryz.ntmps13
   go_wp2_with (first
    |(refine zs (vs:=arrF fl0) rfl 46 (.tmp 2) (.tmp 15) rfl rfl hBn rfl rfl rfl infF rfl ?_;intro w5 hB5 hc5)
    |fail)
   refine bodyPost_ret (results_blk3 rfl rfl hB5 _ Tryz.underlying46 rfl infF) rfl ?_;exact⟨by rw[hv.out];rfl,HA.out.trans' hc5 (zN (by omega))⟩
 obtain⟨hr,hk⟩:=hkk;have HER2:Hid (firstE 0 (formE ok n d a) (leftE p.s.left)=er):=zH (by rw[←HEr.out,kindE,if_pos ⟨hr,hk⟩]);rw[hr]at c37;rw[hk]at c60;clear HEr hr hk;go_enter Tryz.func13,Tryz.ntmps13
 go_wp2_with (first
  |(refine wpList_load_part (vs:=arrA p.h.dst) rfl 24 (.tmp 18) rfl hB 21 rfl _ Tryz.underlying24 rfl infAd (pk_dst p) ?_)
  |fail)
 refine (FS.out _).mono ?_;rintro e w1 ⟨rfl,hc1⟩;have hBs:Blk (w1.alloc (.cells #[.int .i64 0,.int .i64 0,.int .u32 0] 63)) w1.heap.size 63 #[.int .i64 0,.int .i64 0,.int .u32 0]:=Blk.new _ _ _;have hP1:=(hB.chg hc1 (by simp)).alloc (.cells #[.int .i64 0,.int .i64 0,.int .u32 0] 63)
 have hN1:=(hBn.chg hc1 (by simp)).alloc (.cells #[.int .i64 0,.int .i64 0,.int .u32 0] 63);have HC1:=zH ((HA.out.trans hc1).alloc (.cells #[.int .i64 0,.int .i64 0,.int .u32 0] 63));have hlt:=(hBn.chg hc1 (by simp)).lt;clear hB hBn hc1 FS HA c37 c60;go_upto_region 4 with (first
  |(refine zs (vs:=#[.int .i64 n,.int .i64 d,.int .u32 a]) rfl 63 (.tmp 5) (.tmp 21) rfl rfl hBs rfl rfl rfl infSid rfl ?_;intro wc hBc hcc)
  |fail)
 have hPc:=hP1.chg hcc (by simp;omega);have hNc:=hN1.chg hcc (by simp;omega);have HCc:=zH (HC1.out.trans' hcc (zN (by omega)));have s0:wc.cell? ⟨w1.heap.size,0,none⟩=some (.int .i64 n):=hBc.cell 0;have s1:wc.cell? ⟨w1.heap.size,1,none⟩=some (.int .i64 d):=hBc.cell 1
 have s2:wc.cell? ⟨w1.heap.size,2,none⟩=some (.int .u32 a):=hBc.cell 2;have c39:wc.cell? ⟨w.heap.size,39,none⟩=some (.int .i64 p.s.left):=hPc.cell 39;have HPc:=zH hPc;have HBc:=zH hBc;clear hBs hP1 hN1 hcc HC1 hBc hPc;by_cases hgood:ok=true∧n=0∧d=6∧1≤a∧a≤65535∧p.s.left=1
 case neg=>
  have he:er=5:=by
   rw[←HER2.out,firstE,formE,leftE];by_cases h2:ok=true∧n=0∧d=6∧1≤a∧a≤65535
   ·rw[if_pos h2,if_neg (show ¬p.s.left=1 from fun hl=>hgood ⟨h2.1,h2.2.1,h2.2.2.1,h2.2.2.2.1,h2.2.2.2.2,hl⟩)];simp
   ·rw[if_neg h2];simp
  have hv:=HV.out;rw[if_pos (by omega),he]at hv;replace hv:=zH hv;have hcs:ok=false∨(ok=true∧(n !=0)=true)∨(ok=true∧(n !=0)=false∧(d !=6)=true)∨(ok=true∧(n !=0)=false∧(d !=6)=false∧(a==0)=true)
    ∨ (ok=true∧(n !=0)=false∧(d !=6)=false∧(a==0)=false∧a>65535)∨(ok=true∧(n !=0)=false∧(d !=6)=false∧(a==0)=false∧¬a>65535∧(p.s.left !=1)=true):=by
   have h0:=HNN.out;cases ok with
   |false=>exact .inl rfl
   |true=>
    right;by_cases h1:n=0
    ·by_cases h2:d=6
     ·by_cases h3:a=0
      ·exact .inr (.inr (.inl ⟨rfl,by simpa using h1,by simpa using h2,by simpa using h3⟩))
      ·by_cases h4:a>65535
       ·exact .inr (.inr (.inr (.inl ⟨rfl,by simpa using h1,by simpa using h2,by simpa using h3,h4⟩)))
       ·refine .inr (.inr (.inr (.inr ⟨rfl,by simpa using h1,by simpa using h2,by simpa using h3,h4,?_⟩)));have:¬p.s.left=1:=fun hl=>hgood ⟨rfl,h1,h2,by omega,by omega,hl⟩
        simpa using this
     ·exact .inr (.inl ⟨rfl,by simpa using h1,by simpa using h2⟩)
    ·exact .inl ⟨rfl,by simpa using h1⟩
  clear HV HER2 HNN hgood he HPc HBc;generalize p.s.left=lf at *;rcases hcs with rfl | ⟨rfl,a1⟩ | ⟨rfl,a1,a2⟩ | ⟨rfl,a1,a2,a3⟩ | ⟨rfl,a1,a2,a3,a4⟩ | ⟨rfl,a1,a2,a3,a4,a5⟩
  all_goals
   go_wp2_with (first
    |(refine zs (vs:=arrF fl0) rfl 46 (.tmp 2) (.tmp 51) rfl rfl hNc rfl rfl rfl infF rfl ?_;intro w5 hB5 hc5)
    |fail)
   refine bodyPost_ret (results_blk3 rfl rfl hB5 _ Tryz.underlying46 rfl infF) rfl ?_;exact⟨by rw[hv.out];rfl,HCc.out.trans' hc5 (zN (by omega))⟩
 obtain⟨rfl,rfl,rfl,ha1,ha2,hl1⟩:=hgood;have he:er=0:=by
  rw[←HER2.out];simp[firstE,formE,leftE,hl1,ha1,ha2]
 have hv:=HV.out;rw[if_neg (by omega)]at hv;replace hv:=zH hv;rw[hl1]at c39;have a3:(a==0)=false:=by rw[beq_eq_false_iff_ne];omega
 have a4:¬a>65535:=by omega
 have hwa:IntKind.i64.wrap a=a:=by rw[IntKind.wrap_i64];omega
 clear HV HER2 HNN he hl1;go_upto_region 6 with fail
 have hPc:=HPc.out;have hBc:=HBc.out;have R3:=zH (fun W (hc:Chg [w.heap.size+1] wc W)=>(hPc.chg hc (by simp)).part (arrA p.f).toList (pk_f p));have R0:=zH (fun W (hc:Chg [w.heap.size+1] wc W)=>(hPc.chg hc (by simp)).part (arrA p.h.src).toList (pk_src p))
 have S1:Hid (∀W,Chg [w.heap.size+1] wc W→W.cell? ⟨w.heap.size,62,none⟩=some (.int .i64 p.t.dport)):=zH (fun W hc=>(hPc.chg hc (by simp)).cell 62);have S0:Hid (∀W,Chg [w.heap.size+1] wc W→W.cell? ⟨w.heap.size,61,none⟩=some (.int .i64 p.t.sport)):=zH (fun W hc=>(hPc.chg hc (by simp)).cell 61)
 have S2:Hid (∀W,Chg [w.heap.size+1] wc W→W.cell? ⟨w1.heap.size,2,none⟩=some (.int .u32 a)):=zH (fun W hc=>(hBc.chg hc (by simp;omega)).cell 2);have hD:Chg [w.heap.size+1] wc wc.drew:=(Chg.refl _ wc).drew;have HNc:=zH hNc;clear s0 s1 s2 c39 hNc hPc hBc HPc HBc a3 a4 ha1 ha2
 refine wp_region_held_drew (S:=fun W:World=>Chg [w.heap.size+1] wc W) (by kernel_rfl) hD (fun _=>?_);refine zU 0 rfl (by go_simp<;>with_reducible rfl) ?_
 try simp only[zP]
 refine zT 1 rfl (yields_row (by rfl) 24 (.tmp 52) rfl w.heap.size 44 rfl (arrA p.f) _ R3.out Tryz.underlying24 rfl infAd) ?_
 try simp only[zP]
 refine zU 2 rfl (by go_simp<;>with_reducible rfl) ?_
 try simp only[zP]
 refine zU 3 rfl (by go_simp<;>with_reducible rfl) ?_
 try simp only[zP]
 refine zT 4 rfl (zc (by rfl) 3 (.tmp 55) rfl w.heap.size 62 rfl (.int .i64 p.t.dport) _ S1.out Tryz.underlying3 rfl) ?_
 try simp only[zP]
 refine zU 5 rfl (by go_simp<;>with_reducible rfl) ?_
 try simp only[zP]
 refine zU 6 rfl (by go_simp<;>with_reducible rfl) ?_
 try simp only[zP]
 refine zT 7 rfl (yields_row (by rfl) 24 (.tmp 58) rfl w.heap.size 5 rfl (arrA p.h.src) _ R0.out Tryz.underlying24 rfl infAd) ?_
 try simp only[zP]
 refine zU 8 rfl (by go_simp<;>with_reducible rfl) ?_
 try simp only[zP]
 refine zU 9 rfl (by go_simp<;>with_reducible rfl) ?_
 try simp only[zP]
 refine zT 10 rfl (zc (by rfl) 3 (.tmp 61) rfl w.heap.size 61 rfl (.int .i64 p.t.sport) _ S0.out Tryz.underlying3 rfl) ?_
 try simp only[zP]
 refine zU 11 rfl (by go_simp<;>with_reducible rfl) ?_
 try simp only[zP]
 refine zU 12 rfl (by go_simp<;>with_reducible rfl) ?_
 try simp only[zP]
 refine zT 13 rfl (zc (by rfl) 31 (.tmp 64) rfl w1.heap.size 2 rfl (.int .u32 a) _ S2.out Tryz.underlying31 rfl) ?_
 try simp only[zP]
 refine zU 14 rfl (by go_simp<;>with_reducible rfl) ?_
 try simp only[zP]
 refine zR 15 rfl (fun K hK=>?_);refine step_store_blk (vs:=arrF (backF (flP p))) rfl 46 (.tmp 2) (.tmp 63) rfl HNc.out.drew rfl rfl rfl infF rfl ?_;intro w9 hN9 hc9;have hC9:(fun W:World=>Chg [w.heap.size+1] wc W) w9:=hD.trans hc9;have HC9:=zH (HCc.out.trans' hC9 (zN (by omega)));refine zB hK ?_
 clear hK K
 try simp only[zP]
 refine zU 16 rfl (by go_simp<;>with_reducible rfl) ?_
 try simp only[zP]
 refine zU 17 rfl (by go_simp<;>with_reducible rfl) ?_
 try simp only[zP]
 refine wpAnyH_done (by kernel_rfl) ?_ _;clear hC9 hc9 hD R0 R3 S0 S1 S2;go_wp2_with fail;refine bodyPost_ret (results_blk3 rfl rfl hN9 _ Tryz.underlying46 rfl infF) rfl ?_;exact⟨by rw[hv.out];rfl,HC9.out⟩
end Go.Proofs.YtgbndaiifbogmaaGreat
namespace Go.Proofs.YtgbndaiifbogmaaGreat
open Go.RowKit Go.Maps
def HeadPost (x:Ans Hd) (e:Ending):Prop:=match x with
 |.error n=>e=panE n
 |.ok h=>e=.returned (.agg (arrH h))
theorem HeadPost.err {x:Ans Hd} {n:Int} (h:x=.error n):HeadPost x (panE n):=by subst h;rfl
theorem HeadPost.ok {x:Ans Hd} {h:Hd} (e:x=.ok h):HeadPost x (.returned (.agg (arrH h))):=by subst e;rfl
theorem headS_fine {b:By} {h:Hd} (k:headS b=.ok h) (hb:okB b):okA h.src∧okA h.dst∧40≤b.length∧getH b=.ok h∧h.len=(b.length:Int)-40:=by
 unfold headS at k;split at k
 ·cases k
 ·rename_i h' hh;split at k
  ·cases k
  ·rename_i hl;injection k with k
   subst k;obtain⟨a,b',c⟩:=getH_fine hh hb;exact⟨a,b',c,hh,by simpa using hl⟩
theorem headS_len {b:By} {h:Hd} (k:headS b=.ok h) (hb:okB b):b.length≤65575:=by
 obtain⟨_,_,_,hg,hl⟩:=headS_fine k hb;unfold getH at hg;split at hg
 ·cases hg
 ·split at hg
  ·cases hg
  ·injection hg with hg
   subst hg;have:=w2_lt hb 4;have e:(headOf b).len=(w2 b 4:Nat):=rfl;omega
theorem headS_err {b:By} {n:Int} (k:headS b=.error n):n≠0:=by
 unfold headS at k;split at k
 ·rename_i e he;injection k with k;subst k;exact getH_err he
 ·split at k
  ·injection k with k;omega
  ·cases k
theorem dhead_big {w:World} {B:Nat} {v:Value} {l:By} (h:SlY w B v l) (hb:okB l) (hl:l.length≤9223372036854775807) :
  Calls Tryz.prog 214 #[v] w fun e w'=>HeadPost (headS l) e∧Chg [] w w':=by
 obtain⟨A,c,rfl⟩:=h.form;have hA:=(Chg.refl [] w).alloc (.cells arrH0 26);have hB0:Blk (w.alloc (.cells arrH0 26)) w.heap.size 26 arrH0:=Blk.new _ _ _;have FG:=zH (sget_big (h.chg0 hA) hb hl)
 have HX:Hid (headS l=match getH l with | .error e=>.error e | .ok h=>if h.len≠(l.length:Int)-40 then .error 5 else .ok h):=zH rfl;have HE:=zH (fun n (hh:getH l=.error n)=>getH_err hh);unfold getV at FG;generalize headS l=x at *;generalize getH l=y at *;have HA:=zH hA;clear hA h hb
 go_enter Tryz.func214,Tryz.ntmps214
 go_wp2_with fail;refine FG.out.mono ?_;rintro e w1 ⟨rfl,hc1⟩;have hB1:=(hB0.chg hc1 (by simp)).alloc (.cells arrH0 26);have hBh:Blk (w1.alloc (.cells arrH0 26)) w1.heap.size 26 arrH0:=Blk.new _ _ _;have HC1:=zH ((HA.out.trans hc1).alloc (.cells arrH0 26));have hz1:=(HA.out.trans hc1).size
 have hlt:=(hB0.chg hc1 (by simp)).lt;clear FG hB0 HA hc1;cases y with
 |error n=>
  have hn:=HE.out n rfl;have hX:=zH HX.out;simp only at hX;have FM:=zH (fun W=>must_no hn W);clear HX HE hn;go_wp2_with (first
   |(refine zs (vs:=arrH0) rfl 26 (.tmp 3) (.tmp 8) rfl rfl hBh rfl rfl rfl infH0 rfl ?_;intro w2 hB2 hc2)
   |fail)
  refine (FM.out _).mono ?_;rintro e w3 ⟨rfl,rfl⟩;exact⟨rfl,HeadPost.err hX.out,HC1.out.trans' hc2 (zN (by omega))⟩
 |ok h=>
  have hX:=HX.out;simp only at hX;have hw:IntKind.i64.wrap ((l.length:Int)-40)=(l.length:Int)-40:=by rw[IntKind.wrap_i64];omega
  have FM:=zH (fun W=>must_ok W);clear HX HE;go_wp2_with (first
   |(refine zs (vs:=arrH h) rfl 26 (.tmp 3) (.tmp 8) rfl rfl hBh rfl rfl rfl infH rfl ?_;intro w2 hB2 hc2)
   |fail)
  refine (FM.out _).mono ?_;rintro e w3 ⟨rfl,hw3⟩;have hB12:=hB1.chg hc2 (by simp;omega);have HC2:=zH (HC1.out.trans' hc2 (zN (by omega)));rw[hw3]at hB2 hB12 HC2;clear hw3 hc2 hB1 hBh HC1 FM;have q2:w3.cell? ⟨w1.heap.size,2,none⟩=some (.int .i64 h.len):=hB2.cell 2
  by_cases hlen:h.len=(l.length:Int)-40
  ·rw[if_neg (by simpa using hlen)]at hX;replace hX:=zH hX;have hI:(h.len==(l.length:Int)-40)=true:=by simpa using hlen
   have FS:=zH (fun W=>so_ok 5 W);clear hlen;go_wp2_with fail;refine (FS.out _).mono ?_;rintro e w4 ⟨rfl,hw4⟩;rw[hw4]at hB2 hB12 HC2;clear hw4 FS q2;go_wp2_with (first
    |(refine zl rfl 26 (.tmp 3) rfl hB2 rfl _ Tryz.underlying26 rfl infH ?_)
    |(refine zs (vs:=arrH h) rfl 26 (.tmp 2) (.tmp 19) rfl rfl hB12 rfl rfl rfl infH rfl ?_;intro w5 hB5 hc5)
    |fail)
   refine bodyPost_ret (results_blk rfl rfl hB5 _ Tryz.underlying26 rfl infH) rfl ?_;exact⟨HeadPost.ok hX.out,HC2.out.trans' hc5 (zN (by omega))⟩
  ·rw[if_pos hlen]at hX;replace hX:=zH hX;have hI:(h.len==(l.length:Int)-40)=false:=by simpa using hlen
   have FS:=zH (fun W=>so_no 5 W);clear hlen;go_wp2_with fail;refine (FS.out _).mono ?_;rintro e w4 ⟨rfl,hw4⟩;rw[hw4]at HC2;exact⟨rfl,HeadPost.err hX.out,HC2.out⟩
theorem dhead_any {w:World} {B:Nat} {v:Value} {l:By} (h:SlY w B v l) (hb:okB l) (hl:l.length≤1000000):Calls Tryz.prog 214 #[v] w fun e w'=>HeadPost (headS l) e∧Chg [] w w':=dhead_big h hb (by omega)
end Go.Proofs.YtgbndaiifbogmaaGreat
