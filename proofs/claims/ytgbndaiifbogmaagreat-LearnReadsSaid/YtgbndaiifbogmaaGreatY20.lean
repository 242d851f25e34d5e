/-
  Small laws and walks on the way to LearnReads: Ql, Ra, Rz, Ro6, Rb. Conditions: each theorem names its own.
-/
import Derived.Test.YtgbndaiifbogmaaGreatY19
import Derived.Test.YtgbndaiifbogmaaGreatY10
set_option linter.unusedVariables false
set_option linter.unusedSimpArgs false
set_option maxRecDepth 100000
set_option maxHeartbeats 8000000
namespace Go.Proofs.YtgbndaiifbogmaaGreat
open Go.RowKit Go.Maps
def DonePost (x:Ans By) (B:Nat) (e:Ending) (w':World):Prop:=match x with
 |.error n=>e=.returned (.tuple #[.slice none 0 0,.int .i64 n])
 |.ok y=>∃v,e=.returned (.tuple #[v,.int .i64 0])∧OwY w' B v y
theorem DonePost.err {x:Ans By} {B:Nat} {w':World} {n:Int} (h:x=.error n):DonePost x B (.returned (.tuple #[.slice none 0 0,.int .i64 n])) w':=by subst h;rfl
theorem remS_err {b:By} {n:Int} (k:remS b=.error n):n≠0:=by
 unfold remS at k;split at k
 ·rename_i e he;injection k with k;subst k;exact routedS_err he
 ·cases k
theorem advS_err {b:By} {n:Int} (k:advS b=.error n):n≠0:=by
 unfold advS at k;split at k
 ·rename_i e he;injection k with k;subst k;exact routedS_err he
 ·split at k
  ·injection k with k;omega
  ·split at k
   ·injection k with k;omega
   ·cases k
theorem dremove_any {w:World} {v:Value} {l:By} (h:SlY w 0 v l) (hb:okB l) (hl:l.length≤1000000) :
  Calls Tryz.prog 57 #[v] w fun e w'=>DonePost (remS l) w.heap.size e w'∧Chg [] w w':=by
 have hmf:∀(fn:Fn) (first cap:Array Value) (w:World),(Instr.makeFunc fn first cap).run Tryz.prog w=.ok (.func fn first cap) w:=fun _ _ _ _=>rfl
 have hA:=((Chg.refl [] w).alloc (.cells #[.slice none 0 0] 22)).alloc (.cells #[.int .i64 0] 39);have hBo:Blk ((w.alloc (.cells #[.slice none 0 0] 22)).alloc (.cells #[.int .i64 0] 39)) w.heap.size 22 #[.slice none 0 0]:=(Blk.new _ _ _).alloc _
 have hBe:Blk ((w.alloc (.cells #[.slice none 0 0] 22)).alloc (.cells #[.int .i64 0] 39)) (w.heap.size+1) 39 #[.int .i64 0]:=Blk.new' (by simp);obtain⟨A,c,rfl⟩:=h.form;have FA:=zH (remove_any (h.chg0 hA) hb hl);have HE:=zH (fun n (k:remS l=.error n)=>remS_err k);have HA:=zH hA
 generalize remS l=x at *;clear hA h hb;go_enter_defers Tryz.func57,Tryz.ntmps57
 go_wp2_with fail;refine FA.out.mono ?_;rintro e w1 ⟨hp,hc1⟩;have hBo1:=hBo.chg hc1 (by simp);have hBe1:=hBe.chg hc1 (by simp);have HC1:=zH (HA.out.trans hc1);have hne:w.heap.size+1≠w.heap.size:=by omega
 clear FA hBo hBe HA;cases x with
 |error n=>
  obtain rfl:e=_:=hp;have hn:=HE.out n rfl;refine leaves_cons (f:=109) (args:=#[.pointer (some ⟨w.heap.size+1,0,none⟩),.pointer (some ⟨w.heap.size,0,none⟩)]) (by simp) (by simp[go_sem]) ?_
  refine (catchR_some (x:=.nilIface) hn hne [] (hBe1.cell 0) (hBe1.frozen 0) (hBo1.cell 0) (hBo1.frozen 0)).mono ?_;rintro e u' w2 ⟨rfl,rfl,rfl⟩
  have hb2:Blk (((w1.setCell ⟨w.heap.size+1,0,none⟩ (.int .i64 n)).setCell ⟨w.heap.size,0,none⟩ (.slice none 0 0)).drew) (w.heap.size+1) 39 #[.int .i64 n]:=((hBe1.set_ 0 (.int .i64 n)).far (by simp) _).drew
  have hb3:Blk (((w1.setCell ⟨w.heap.size+1,0,none⟩ (.int .i64 n)).setCell ⟨w.heap.size,0,none⟩ (.slice none 0 0)).drew) w.heap.size 22 #[.slice none 0 0]:=((hBo1.far (by simp) _).set_ 0 (.slice none 0 0)).drew;have k0:=hb2.cell 0;have k1:=hb3.cell 0
  have hcc:=HC1.out.setCell (p:=⟨w.heap.size+1,0,none⟩) (.inr (by simp)) (.int .i64 n);have hcd:=(hcc.setCell (p:=⟨w.heap.size,0,none⟩) (.inr (by simp)) (.slice none 0 0)).drew;simp only[List.getElem?_toArray,List.getElem?_cons_zero]at k0 k1;simp[Leaves,settle,results,Tryz.results57,go_sem,k0,k1]
  exact⟨rfl,hcd⟩
 |ok y=>
  obtain⟨v,rfl,ho⟩:=hp;have k0:=hBo1.cell 0;have k1:=hBe1.cell 0;have f0:=hBo1.frozen 0;have f1:=hBe1.frozen 0;simp only[List.getElem?_toArray,List.getElem?_cons_zero]at k0 k1
  have hb2:Blk ((w1.setCell ⟨w.heap.size,0,none⟩ v).setCell ⟨w.heap.size+1,0,none⟩ (.int .i64 0)) w.heap.size 22 #[v]:=(hBo1.set_ 0 v).far (by simp) _
  have hb3:Blk ((w1.setCell ⟨w.heap.size,0,none⟩ v).setCell ⟨w.heap.size+1,0,none⟩ (.int .i64 0)) (w.heap.size+1) 39 #[.int .i64 0]:=(hBe1.far (by simp) _).set_ 0 (.int .i64 0)
  have hc2:Chg [w.heap.size,w.heap.size+1] w1 ((w1.setCell ⟨w.heap.size,0,none⟩ v).setCell ⟨w.heap.size+1,0,none⟩ (.int .i64 0)):=((Chg.refl _ w1).setCell (p:=⟨w.heap.size,0,none⟩) (.inl (by simp)) v).setCell (p:=⟨w.heap.size+1,0,none⟩) (.inl (by simp)) _
  have HO:=zH (own_chg ho hc2 (fun x hx hm=>by have:=(own_lt ho x hx).1;simp at hm this;omega));have HC2:=zH (HC1.out.trans' hc2 (by intro x hx;simp at hx;right;omega));have HB:=zH (And.intro hb2 hb3);obtain⟨A1,c1,rfl⟩:=(OwY.sl ho).form;clear hBo1 hBe1 HC1 hc2 ho hb2 hb3;go_wp2_with fail
  obtain⟨hb2,hb3⟩:=HB.out;refine leaves_cons (f:=109) (args:=#[.pointer (some ⟨w.heap.size+1,0,none⟩),.pointer (some ⟨w.heap.size,0,none⟩)]) (by simp) (by simp[go_sem]) ?_;refine (catchR_idle (hb3.cell 0) (hb3.frozen 0)).mono ?_;rintro e u' w2 ⟨rfl,rfl,rfl⟩
  have hb4:=(hb2.far (p:=⟨w.heap.size+1,0,none⟩) (by simp) (.int .i64 0)).drew;have hb5:=(hb3.set_ 0 (.int .i64 0)).drew;have k2:=hb4.cell 0;have k3:=hb5.cell 0
  have hc3:Chg [w.heap.size+1] _ _:=((Chg.refl [w.heap.size+1] ((w1.setCell ⟨w.heap.size,0,none⟩ (.slice A1 y.length c1)).setCell ⟨w.heap.size+1,0,none⟩ (.int .i64 0))).setCell (p:=⟨w.heap.size+1,0,none⟩) (.inl (by simp)) (.int .i64 0)).drew
  have hO2:=own_chg HO.out hc3 (fun x hx hm=>by have:=(own_lt HO.out x hx).1;simp at hm this;omega);have hC3:=HC2.out.trans' hc3 (by intro x hx;simp at hx;right;omega);simp only[List.getElem?_toArray,List.getElem?_cons_zero]at k2 k3;simp[Leaves,settle,results,Tryz.results57,go_sem,k2,k3]
  exact⟨⟨_,rfl,ownsRow_less hO2 (by simp;omega)⟩,hC3⟩
theorem dadvance_big {w:World} {v:Value} {l:By} (h:SlY w 0 v l) (hb:okB l) (hl:l.length≤9223372036854775807) :
  Calls Tryz.prog 56 #[v] w fun e w'=>DonePost (advS l) w.heap.size e w'∧Chg [] w w':=by
 have hmf:∀(fn:Fn) (first cap:Array Value) (w:World),(Instr.makeFunc fn first cap).run Tryz.prog w=.ok (.func fn first cap) w:=fun _ _ _ _=>rfl
 have hA:=((Chg.refl [] w).alloc (.cells #[.slice none 0 0] 22)).alloc (.cells #[.int .i64 0] 39);have hBo:Blk ((w.alloc (.cells #[.slice none 0 0] 22)).alloc (.cells #[.int .i64 0] 39)) w.heap.size 22 #[.slice none 0 0]:=(Blk.new _ _ _).alloc _
 have hBe:Blk ((w.alloc (.cells #[.slice none 0 0] 22)).alloc (.cells #[.int .i64 0] 39)) (w.heap.size+1) 39 #[.int .i64 0]:=Blk.new' (by simp);obtain⟨A,c,rfl⟩:=h.form;have FA:=zH (advance_big (h.chg0 hA) hb hl);have HE:=zH (fun n (k:advS l=.error n)=>advS_err k);have HA:=zH hA
 generalize advS l=x at *;clear hA h hb;go_enter_defers Tryz.func56,Tryz.ntmps56
 go_wp2_with fail;refine FA.out.mono ?_;rintro e w1 ⟨hp,hc1⟩;have hBo1:=hBo.chg hc1 (by simp);have hBe1:=hBe.chg hc1 (by simp);have HC1:=zH (HA.out.trans hc1);have hne:w.heap.size+1≠w.heap.size:=by omega
 clear FA hBo hBe HA;cases x with
 |error n=>
  obtain rfl:e=_:=hp;have hn:=HE.out n rfl;refine leaves_cons (f:=106) (args:=#[.pointer (some ⟨w.heap.size+1,0,none⟩),.pointer (some ⟨w.heap.size,0,none⟩)]) (by simp) (by simp[go_sem]) ?_
  refine (catchA_some (x:=.nilIface) hn hne [] (hBe1.cell 0) (hBe1.frozen 0) (hBo1.cell 0) (hBo1.frozen 0)).mono ?_;rintro e u' w2 ⟨rfl,rfl,rfl⟩
  have hb2:Blk (((w1.setCell ⟨w.heap.size+1,0,none⟩ (.int .i64 n)).setCell ⟨w.heap.size,0,none⟩ (.slice none 0 0)).drew) (w.heap.size+1) 39 #[.int .i64 n]:=((hBe1.set_ 0 (.int .i64 n)).far (by simp) _).drew
  have hb3:Blk (((w1.setCell ⟨w.heap.size+1,0,none⟩ (.int .i64 n)).setCell ⟨w.heap.size,0,none⟩ (.slice none 0 0)).drew) w.heap.size 22 #[.slice none 0 0]:=((hBo1.far (by simp) _).set_ 0 (.slice none 0 0)).drew;have k0:=hb2.cell 0;have k1:=hb3.cell 0
  have hcc:=HC1.out.setCell (p:=⟨w.heap.size+1,0,none⟩) (.inr (by simp)) (.int .i64 n);have hcd:=(hcc.setCell (p:=⟨w.heap.size,0,none⟩) (.inr (by simp)) (.slice none 0 0)).drew;simp only[List.getElem?_toArray,List.getElem?_cons_zero]at k0 k1;simp[Leaves,settle,results,Tryz.results56,go_sem,k0,k1]
  exact⟨rfl,hcd⟩
 |ok y=>
  obtain⟨v,rfl,ho⟩:=hp;have k0:=hBo1.cell 0;have k1:=hBe1.cell 0;have f0:=hBo1.frozen 0;have f1:=hBe1.frozen 0;simp only[List.getElem?_toArray,List.getElem?_cons_zero]at k0 k1
  have hb2:Blk ((w1.setCell ⟨w.heap.size,0,none⟩ v).setCell ⟨w.heap.size+1,0,none⟩ (.int .i64 0)) w.heap.size 22 #[v]:=(hBo1.set_ 0 v).far (by simp) _
  have hb3:Blk ((w1.setCell ⟨w.heap.size,0,none⟩ v).setCell ⟨w.heap.size+1,0,none⟩ (.int .i64 0)) (w.heap.size+1) 39 #[.int .i64 0]:=(hBe1.far (by simp) _).set_ 0 (.int .i64 0)
  have hc2:Chg [w.heap.size,w.heap.size+1] w1 ((w1.setCell ⟨w.heap.size,0,none⟩ v).setCell ⟨w.heap.size+1,0,none⟩ (.int .i64 0)):=((Chg.refl _ w1).setCell (p:=⟨w.heap.size,0,none⟩) (.inl (by simp)) v).setCell (p:=⟨w.heap.size+1,0,none⟩) (.inl (by simp)) _
  have HO:=zH (own_chg ho hc2 (fun x hx hm=>by have:=(own_lt ho x hx).1;simp at hm this;omega));have HC2:=zH (HC1.out.trans' hc2 (by intro x hx;simp at hx;right;omega));have HB:=zH (And.intro hb2 hb3);obtain⟨A1,c1,rfl⟩:=(OwY.sl ho).form;clear hBo1 hBe1 HC1 hc2 ho hb2 hb3;go_wp2_with fail
  obtain⟨hb2,hb3⟩:=HB.out;refine leaves_cons (f:=106) (args:=#[.pointer (some ⟨w.heap.size+1,0,none⟩),.pointer (some ⟨w.heap.size,0,none⟩)]) (by simp) (by simp[go_sem]) ?_;refine (catchA_idle (hb3.cell 0) (hb3.frozen 0)).mono ?_;rintro e u' w2 ⟨rfl,rfl,rfl⟩
  have hb4:=(hb2.far (p:=⟨w.heap.size+1,0,none⟩) (by simp) (.int .i64 0)).drew;have hb5:=(hb3.set_ 0 (.int .i64 0)).drew;have k2:=hb4.cell 0;have k3:=hb5.cell 0
  have hc3:Chg [w.heap.size+1] _ _:=((Chg.refl [w.heap.size+1] ((w1.setCell ⟨w.heap.size,0,none⟩ (.slice A1 y.length c1)).setCell ⟨w.heap.size+1,0,none⟩ (.int .i64 0))).setCell (p:=⟨w.heap.size+1,0,none⟩) (.inl (by simp)) (.int .i64 0)).drew
  have hO2:=own_chg HO.out hc3 (fun x hx hm=>by have:=(own_lt HO.out x hx).1;simp at hm this;omega);have hC3:=HC2.out.trans' hc3 (by intro x hx;simp at hx;right;omega);simp only[List.getElem?_toArray,List.getElem?_cons_zero]at k2 k3;simp[Leaves,settle,results,Tryz.results56,go_sem,k2,k3]
  exact⟨⟨_,rfl,ownsRow_less hO2 (by simp;omega)⟩,hC3⟩
theorem dadvance_any {w:World} {v:Value} {l:By} (h:SlY w 0 v l) (hb:okB l) (hl:l.length≤1000000):Calls Tryz.prog 56 #[v] w fun e w'=>DonePost (advS l) w.heap.size e w'∧Chg [] w w':=dadvance_big h hb (by omega)
theorem okB.set {l:By} (h:okB l) (i x:Nat) (hx:x<256):okB (l.set i x):=fun y hy=>by
 rcases List.mem_or_eq_of_mem_set hy with h1|h1
 ·exact h y h1
 ·omega
theorem advS_fine {b x:By} (k:advS b=.ok x) (hb:okB b):x.length=b.length∧okB x:=by
 unfold advS at k;split at k
 ·cases k
 ·rename_i h s n hr;split at k
  ·cases k
  ·split at k
   ·cases k
   ·injection k with k
    subst k;have hf:=routedS_fine hr hb;obtain⟨c1,c2,c3,c4,c5⟩:=canH.at hf.can;have hlen:=hf.len;have hll:=hf.hl;obtain⟨i0,hli,hi0⟩:=hf.fine.left;have hok:okA (s.segs.getD (s.left.toNat-1) ad0):=by
     refine hf.ok _ ?_;rw[List.getD_eq_getElem?_getD,List.getElem?_eq_getElem (show s.left.toNat-1<s.segs.length by omega)];exact List.getElem_mem _
    have hcn:canH {h with hop:=h.hop-1,dst:=s.segs.getD (s.left.toNat-1) ad0,len:=(b.drop 40).length} = true:=canH_of (by omega) (by omega) (by rw[List.length_drop];omega) (by omega) (by omega);have hjl:=joinS_len (h:={h with hop:=h.hop-1,dst:=s.segs.getD (s.left.toNat-1) ad0}) (r:=b.drop 40) hcn
    refine⟨by rw[List.length_set,hjl,List.length_drop];omega,?_⟩;refine okB.set ?_ _ _ (by have:=gB_lt hb 43;omega);exact (putH_ok ⟨hcn,hf.wf.src,hok⟩).app (hb.drop 40)
theorem advS_len {b x:By} (k:advS b=.ok x) (hb:okB b):b.length≤65575:=by
 unfold advS at k;split at k
 ·cases k
 ·rename_i h s n hr;have hf:=routedS_fine hr hb;have h1:=(canH.at hf.can).2.2.1;have h2:=hf.hl;omega
theorem remS_fine {b x:By} (k:remS b=.ok x) (hb:okB b):x.length≤b.length∧okB x:=by
 unfold remS at k;split at k
 ·cases k
 ·rename_i h s n hr;injection k with k
  subst k;have hf:=routedS_fine hr hb;obtain⟨c1,c2,c3,c4,c5⟩:=canH.at hf.can;have hlen:=hf.len;have hll:=hf.hl;have hnx:=hf.nx;obtain⟨i0,hli,hi0⟩:=hf.fine.left;have hok:okA (s.segs.getD 0 ad0):=by
   refine hf.ok _ ?_;rw[List.getD_eq_getElem?_getD,List.getElem?_eq_getElem (show 0<s.segs.length by omega)];exact List.getElem_mem _
  have hcn:canH {h with nxt:=s.nxt,dst:=s.segs.getD 0 ad0,len:=(b.drop (40+n)).length} = true:=canH_of (by omega) (by omega) (by rw[List.length_drop];omega) (by omega) (by omega);have hjl:=joinS_len (h:={h with nxt:=s.nxt,dst:=s.segs.getD 0 ad0}) (r:=b.drop (40+n)) hcn
  refine⟨by rw[hjl,List.length_drop];omega,?_⟩;exact (putH_ok ⟨hcn,hf.wf.src,hok⟩).app (hb.drop _)
theorem lstrip_big {w:World} {v:Value} {l:By} (h:SlY w 0 v l) (hb:okB l) (hl:l.length≤9223372036854775807) :
  Calls Tryz.prog 14 #[v] w fun e w'=>DonePost (stripS l) w.heap.size e w'∧Chg [] w w':=by
 obtain⟨A,c,rfl⟩:=h.form;have FA:=zH (dadvance_big h hb hl);have HX:Hid (stripS l=match advS l with | .error e=>.error e | .ok x=>remS x):=zH rfl;have HE:=zH (fun n (k:advS l=.error n)=>advS_err k);have HF:=zH (fun x (k:advS l=.ok x)=>And.intro (advS_fine k hb) (advS_len k hb))
 generalize stripS l=x at *;generalize advS l=y at *;clear h hb;go_enter Tryz.func14,Tryz.ntmps14
 go_wp2_with fail;refine FA.out.mono ?_;rintro e w1 ⟨hp,hc1⟩;cases y with
 |error n=>
  obtain rfl:e=_:=hp;have hn:=HE.out n rfl;have hI:(n !=0)=true:=by simpa using hn
  have hX:=HX.out;simp only at hX;replace hX:=zH hX;clear HX HE HF FA hn;go_wp2_with fail;go_ret2
  exact⟨DonePost.err hX.out,hc1⟩
 |ok z=>
  obtain⟨v1,rfl,ho⟩:=hp;obtain⟨⟨hzl,hzb⟩,hls⟩:=HF.out z rfl;have hX:=HX.out;simp only at hX;have FR:=zH (dremove_any (Sl.less (OwY.sl ho) (Nat.zero_le _)) hzb (by omega));have HC1:=zH hc1;obtain⟨A1,c1,rfl⟩:=(OwY.sl ho).form;rw[←hX]at FR;replace hX:=zH hX;have hz1:=hc1.size
  clear HX HE HF FA hzl hzb ho hc1 hls;go_wp2_with fail;refine FR.out.mono ?_;rintro e w2 ⟨hp,hc2⟩;obtain⟨a,b,rfl,hq⟩:∃a b,e=.returned (.tuple #[a,b])∧DonePost x w.heap.size (.returned (.tuple #[a,b])) w2:=by
   cases x with
   |error n=>obtain rfl:e=_:=hp;exact⟨_,_,rfl,rfl⟩
   |ok y=>obtain⟨v,rfl,ho⟩:=hp;exact⟨_,_,rfl,_,rfl,ownsRow_less ho hz1⟩
  have HP:=zH hq;clear hq hp FR;go_wp2_with fail;go_ret2
  refine⟨?_,HC1.out.trans hc2⟩;have h:=HP.out;exact h
theorem lstrip_any {w:World} {v:Value} {l:By} (h:SlY w 0 v l) (hb:okB l) (hl:l.length≤1000000):Calls Tryz.prog 14 #[v] w fun e w'=>DonePost (stripS l) w.heap.size e w'∧Chg [] w w':=lstrip_big h hb (by omega)
end Go.Proofs.YtgbndaiifbogmaaGreat
namespace Go.Proofs.YtgbndaiifbogmaaGreat
open Go.RowKit Go.Maps
theorem r16_any {w:World} {v:Value} {B:Nat} {l:By} (h:SlY w B v l) (hb:okB l) (hn:l.length≤1000000) {at_:Nat} (ha:at_+2≤l.length) :
  Calls Tryz.prog 160 #[v,.int .i64 at_] w fun e w'=>e=.returned (.tuple #[.int .i64 (w2 l at_),.bool true])∧Chg [] w w':=by
 obtain⟨A,c,rfl⟩:=h.form;obtain⟨b,o,c',e,_,_,hc⟩:=h.all (by omega);simp only[Value.slice.injEq,true_and]at e;obtain⟨rfl,rfl⟩:=e;have c0:=hc at_ (by omega);have c1:=hc (at_+1) (by omega);have h0:=gB_lt hb at_;have h1:=gB_lt hb (at_+1)
 have hw:IntKind.i64.wrap ((gB l at_:Int)*256)=(gB l at_:Int)*256:=by rw[IntKind.wrap_i64];omega
 have hw2:IntKind.i64.wrap ((gB l at_:Int)*256+(gB l (at_+1):Int))=(w2 l at_:Nat):=by rw[IntKind.wrap_i64];unfold w2;omega
 simp only[byV]at c0 c1;generalize gB l at_=x0 at *;generalize gB l (at_+1)=x1 at *;generalize w2 l at_=y at *;generalize l.length=n at *;have hI0:¬((at_:Int)<0):=by omega
 have hwn:IntKind.i64.wrap ((n:Int)-1)=(n:Int)-1:=by rw[IntKind.wrap_i64];omega
 have hwa:IntKind.i64.wrap ((at_:Int)+1)=(at_:Int)+1:=by rw[IntKind.wrap_i64];omega
 have hI1:¬((at_:Int)≥(n:Int)-1):=by omega
 have i0:(at_:Int)<(n:Int):=by omega
 have i1:(at_:Int)+1<(n:Int):=by omega
 have wx0:IntKind.i64.wrap (x0:Int)=(x0:Int):=by rw[IntKind.wrap_i64];omega
 have wx1:IntKind.i64.wrap (x1:Int)=(x1:Int):=by rw[IntKind.wrap_i64];omega
 clear hc hb h;go_enter Tryz.func160,Tryz.ntmps160
 go_upto_region 3 with fail
 go_quiet (fail)
 go_wp2_with fail;go_ret2
 exact⟨rfl,(Chg.refl _ _).drewN _⟩
theorem r32_any {w:World} {v:Value} {B:Nat} {l:By} (h:SlY w B v l) (hb:okB l) (hn:l.length≤1000000) {at_:Nat} (ha:at_+4≤l.length) :
  Calls Tryz.prog 102 #[v,.int .i64 at_] w fun e w'=>e=.returned (.tuple #[.int .u32 (w4 l at_),.bool true])∧Chg [] w w':=by
 obtain⟨A,c,rfl⟩:=h.form;have F1:=zH (r16_any h hb hn (at_:=at_) (by omega));have F2:=zH (fun W (hc:Chg [] w W)=>r16_any (h.chg0 hc) hb hn (at_:=at_+2) (by omega));have k1:=w2_lt hb at_;have k2:=w2_lt hb (at_+2);have u1:IntKind.u32.wrap (w2 l at_:Int)=(w2 l at_:Int):=by rw[IntKind.wrap_u32'];omega
 have u2:IntKind.u32.wrap (w2 l (at_+2):Int)=(w2 l (at_+2):Int):=by rw[IntKind.wrap_u32'];omega
 have u3:IntKind.u32.wrap ((w2 l at_:Int)*65536)=(w2 l at_:Int)*65536:=by rw[IntKind.wrap_u32'];omega
 have u4:IntKind.u32.wrap ((w2 l at_:Int)*65536+(w2 l (at_+2):Int))=(w4 l at_:Nat):=by rw[IntKind.wrap_u32'];unfold w4;omega
 have HU:=zH (And.intro u1 (And.intro u2 (And.intro u3 u4)));have hwn:IntKind.i64.wrap ((l.length:Int)-3)=(l.length:Int)-3:=by rw[IntKind.wrap_i64];omega
 have hwa:IntKind.i64.wrap ((at_:Int)+2)=(at_:Int)+2:=by rw[IntKind.wrap_i64];omega
 have hI0:¬((at_:Int)<0):=by omega
 have hI1:¬((at_:Int)≥(l.length:Int)-3):=by omega
 generalize w2 l at_=x0 at *;generalize w2 l (at_+2)=x1 at *;generalize w4 l at_=y at *;generalize l.length=n at *;clear hb h u1 u2 u3 u4 k1 k2;go_enter Tryz.func102,Tryz.ntmps102
 go_wp2_with fail;refine F1.out.mono ?_;rintro e w1 ⟨rfl,hc1⟩;go_wp2_with fail;refine (F2.out _ hc1).mono ?_;rintro e w2 ⟨rfl,hc2⟩;obtain⟨u1,u2,u3,u4⟩:=HU.out;go_wp2_with fail;go_ret2
 exact⟨rfl,hc1.trans hc2⟩
theorem rmod_any {n:Nat} (h:n<4294967296) (w:World):Calls Tryz.prog 161 #[.int .i64 n] w fun e w'=>e=.returned (.int .i64 (n%65536:Nat))∧w=w':=by
 have hb:=and_word h;generalize n%65536=m at *;clear h;go_enter Tryz.func161,Tryz.ntmps161
 go_wp2
 go_ret
 exact⟨rfl,rfl⟩
theorem rjoin_any {a b:Nat} (ha:a<4294967296) (hb:b<4294967296) (w:World):Calls Tryz.prog 99 #[.int .i64 a,.int .i64 b] w fun e w'=>e=.returned (.int .i64 (joinC a b:Nat))∧w=w':=by
 have F1:=zH (rmod_any ha w);have F2:=zH (rmod_any hb w);have HJ:Hid (joinC a b=if a%65536+b%65536>65535 then a%65536+b%65536-65535 else a%65536+b%65536):=zH rfl;have l1:a%65536<65536:=Nat.mod_lt _ (by omega);have l2:b%65536<65536:=Nat.mod_lt _ (by omega);generalize joinC a b=r at *
 generalize a%65536=x at *;generalize b%65536=y at *;have hw:IntKind.i64.wrap ((x:Int)+(y:Int))=(x:Int)+(y:Int):=by rw[IntKind.wrap_i64];omega
 by_cases hk:x+y>65535
 ·have hr:=HJ.out;rw[if_pos hk]at hr;have hI:(x:Int)+(y:Int)>65535:=by omega
  have hw2:IntKind.i64.wrap ((x:Int)+(y:Int)-65535)=(r:Nat):=by rw[IntKind.wrap_i64];omega
  clear HJ hr hk ha hb;go_enter Tryz.func99,Tryz.ntmps99
  go_wp2_with fail;refine F1.out.mono ?_;rintro e w1 ⟨rfl,rfl⟩;go_wp2_with fail;refine F2.out.mono ?_;rintro e w1 ⟨rfl,rfl⟩;go_wp2_with fail;go_ret
  exact⟨rfl,rfl⟩
 ·have hr:=HJ.out;rw[if_neg hk]at hr;have hI:¬((x:Int)+(y:Int)>65535):=by omega
  have HR:Hid ((r:Int)=(x:Int)+(y:Int)):=zH (by omega);clear HJ hr hk ha hb;go_enter Tryz.func99,Tryz.ntmps99
  go_wp2_with fail;refine F1.out.mono ?_;rintro e w1 ⟨rfl,rfl⟩;go_wp2_with fail;refine F2.out.mono ?_;rintro e w1 ⟨rfl,rfl⟩;go_wp2_with fail;go_ret
  exact⟨by rw[HR.out];rfl,rfl⟩
theorem sumC_pad:∀(s:Nat) (l:By),l.length%2=1→sumC s (l ++ [0])=sumC s l
 |s,[],h=>by simp at h
 |s,[x],h=>by
  show joinC s (x*256+0)=joinC s (x*256);rw[Nat.add_zero]
 |s,x::y::r,h=>by
  show sumC (joinC s (x*256+y)) (r ++ [0])=sumC (joinC s (x*256+y)) r;exact sumC_pad _ r (by simp only[List.length_cons]at h;omega)
theorem rsum_any {w:World} {v:Value} {l:By} (h:SlY w 0 v l) (hb:okB l) (hn:l.length≤900000) :
  Calls Tryz.prog 101 #[v] w fun e w'=>e=.returned (.int .i64 (sumC 0 l:Nat))∧Chg [] w w':=by
 obtain⟨A,c,rfl⟩:=h.form;obtain⟨S,hS⟩:∃S,S=sumC 0 l:=⟨_,rfl⟩;rw[←hS];have HS0:=zH hS;clear hS;have hrem:(l.length:Int).tmod 2=((l.length%2:Nat):Int):=rfl;by_cases he:l.length%2=1
 ·rw[he]at hrem;have hp:=sumC_pad 0 l he;have H0:Hid (w.drew=w.drew):=zH rfl;have HA1:=zH ((Chg.refl [] w).alloc (.cells #[] 5))
  have HO1:Hid ((w.alloc (.cells #[] 5)).ownsRow w.heap.size 5 1 (.slice (some ⟨w.heap.size,0,none⟩) 0 0) 0 []):=zH (own_lit (base:=w.heap.size) w 5 1 0 #[] (Nat.le_refl _) (by simp[maxLen]) rfl);have HSl:=zH (h.chg0 HA1.out);have HBB:=zH (And.intro hb h);clear hb h
  go_enter Tryz.func101,Tryz.ntmps101
  go_upto_region 3 with (first
   |(at_builtin;refine wpList_app elY rfl (.tmp 11) (.tmp 12) rfl w.heap.size rfl HO1.out rfl HSl.out (byV_one _) (by unfold maxLen;omega) (by omega) (by simp) ?_;intro v2 wa hown2 hc2 hb2;have HA3:=zH ((Chg.refl [] wa).alloc (.cells #[byV 0] 5));have HO3:=zH (own_chg hown2 HA3.out (by simp));have HT3:Hid (Sl (wa.alloc (.cells #[byV 0] 5)) 0 1 (.slice (some ⟨wa.heap.size,0,none⟩) 1 1) 1 ([0].map byV)):=zH (Sl.of_own (own_lit (base:=0) wa 5 1 1 #[byV 0] (Nat.zero_le _) (by simp[maxLen]) rfl));have hz3:w.heap.size≤(wa.alloc (.cells #[byV 0] 5)).heap.size:=(by have:=hc2.size;simp at this ⊢;omega))
   |(at_builtin;refine wpList_app elY rfl (.tmp 13) (.tmp 14) rfl w.heap.size rfl HO3.out rfl HT3.out (byV_one _) (by unfold maxLen;omega) (by omega) hz3 ?_;intro v4 w4 hown4 hc4 hb4)
   |fail)
  have HC4:Hid (Chg [] w w4):=zH (((HA1.out.trans' hc2 (fun x hx=>.inr (own_lt HO1.out x hx).1)).trans HA3.out).trans' hc4 (fun x hx=>.inr (own_lt HO3.out x hx).1));have ho4:SlY w4 0 v4 (l ++ [0]):=by
   refine Sl.less (OwY.sl (B:=w.heap.size) ?_) (Nat.zero_le _);unfold OwY;rw[List.length_append,List.map_append];simpa using hown4
  have hbm:okB (l ++ [0]):=HBB.out.1.app (by intro x hx;simp at hx;omega);have hm2:(l ++ [0]).length%2=0:=by rw[List.length_append,List.length_singleton];omega
  have hml:(l ++ [0]).length≤900001:=by rw[List.length_append,List.length_singleton];omega
  have HSum:Hid (sumC 0 (l ++ [0])=sumC 0 l):=zH hp;clear hown2 hown4 hc2 hc4 hb2 hb4 HA1 HO1 HSl HBB HA3 HO3 HT3 hz3 hp he hrem;generalize l ++ [0]=m at *;obtain⟨A4,c4,rfl⟩:=ho4.form;have HM:=zH (And.intro ho4 hbm);clear ho4 hbm hn;have HMl:Hid (m.length≤900001∧m.length%2=0):=zH ⟨hml,hm2⟩
  have hml':m.length≤900001:=hml;have HS2:Hid (sumC 0 m=S):=zH (HSum.out.trans HS0.out.symm);clear HSum hm2 hml HS0;go_wp2_with fail
  go_loopw [3,4,5,6] (fun sv iv _ _ wr=>∃i s:Nat,i≤m.length∧i%2=0∧s<65536∧iv=.int .i64 i∧sv=.int .i64 (s:Nat)∧Hid (sumC s (m.drop i)=S)∧Hid (Chg [] w4 wr)) (fun _ iv _ _ _=>m.length-(intOf iv).toNat)
  case atStart=>exact⟨0,0,by omega,by omega,by omega,rfl,rfl,HS2,zH (Chg.refl _ _)⟩
  case round=>
   obtain⟨i,s,hi,hi2,hs,rfl,rfl,HJ,HC⟩:=hrel;by_cases hlt:i<m.length
   ·have hev:=HMl.out.2;have hi1:i+2≤m.length:=by omega
    have HJ':Hid (sumC (joinC s (w2 m i)) (m.drop (i+2))=S):=zH (by rw[←HJ.out];exact (sumC_two (by omega)).symm);have F1:=zH (r16_any (HM.out.1.chg0 HC.out) HM.out.2 (by omega) (at_:=i) hi1);have hwl:=w2_lt HM.out.2 i;have F2:=zH (fun W=>rjoin_any (a:=s) (b:=w2 m i) (by omega) (by omega) W)
    have hj:=joinC_lt s (w2 m i);have hI:(i:Int)<(m.length:Int):=by omega
    have hw:IntKind.i64.wrap ((i:Int)+2)=(i:Int)+2:=by rw[IntKind.wrap_i64];omega
    generalize joinC s (w2 m i)=s2 at *;generalize w2 m i=y at *;clear hev hwl HJ HM;go_wp2_with fail;refine F1.out.mono ?_;rintro e w5 ⟨rfl,hc5⟩;go_wp2_with fail;refine (F2.out _).mono ?_;rintro e w6 ⟨rfl,hw6⟩;rw[hw6]at hc5;have HC6:=zH (HC.out.trans hc5);clear hc5 F1 F2 hw6 HC;go_wp2_with fail
    go_round
    case rel=>exact⟨i+2,s2,by omega,by omega,hj,by go_num,rfl,HJ',HC6⟩
    case measure=>simp[intOf];omega
   ·obtain rfl:i=m.length:=by omega
    have hq:=HJ.out;rw[List.drop_length]at hq;have hq':Hid (s=S):=zH hq;have hI:¬((m.length:Int)<(m.length:Int)):=by omega
    clear HJ HM hq;go_wp2_with fail;go_ret
    exact⟨by rw[←hq'.out];rfl,HC4.out.trans HC.out⟩
 ·have he2:l.length%2=0:=by omega
  rw[he2]at hrem;have HSum:Hid (sumC 0 l=sumC 0 l):=zH rfl;have HM:=zH (And.intro h hb);have hm2:l.length%2=0:=he2;have hml:l.length≤900001:=by omega
  clear hb h he he2;go_enter Tryz.func101,Tryz.ntmps101
  go_upto_region 3 with fail
  clear hrem hn;have HMl:Hid (l.length≤900001∧l.length%2=0):=zH ⟨hml,hm2⟩;have hml':l.length≤900001:=hml;have HS2:Hid (sumC 0 l=S):=zH (HSum.out.trans HS0.out.symm);clear HSum hm2 hml HS0;go_wp2_with fail
  go_loopw [3,4,5,6] (fun sv iv _ _ wr=>∃i s:Nat,i≤l.length∧i%2=0∧s<65536∧iv=.int .i64 i∧sv=.int .i64 (s:Nat)∧Hid (sumC s (l.drop i)=S)∧Hid (Chg [] w wr)) (fun _ iv _ _ _=>l.length-(intOf iv).toNat)
  case atStart=>exact⟨0,0,by omega,by omega,by omega,rfl,rfl,HS2,zH (Chg.refl _ _)⟩
  case round=>
   obtain⟨i,s,hi,hi2,hs,rfl,rfl,HJ,HC⟩:=hrel;by_cases hlt:i<l.length
   ·have hev:=HMl.out.2;have hi1:i+2≤l.length:=by omega
    have HJ':Hid (sumC (joinC s (w2 l i)) (l.drop (i+2))=S):=zH (by rw[←HJ.out];exact (sumC_two (by omega)).symm);have F1:=zH (r16_any (HM.out.1.chg0 HC.out) HM.out.2 (by omega) (at_:=i) hi1);have hwl:=w2_lt HM.out.2 i;have F2:=zH (fun W=>rjoin_any (a:=s) (b:=w2 l i) (by omega) (by omega) W)
    have hj:=joinC_lt s (w2 l i);have hI:(i:Int)<(l.length:Int):=by omega
    have hw:IntKind.i64.wrap ((i:Int)+2)=(i:Int)+2:=by rw[IntKind.wrap_i64];omega
    generalize joinC s (w2 l i)=s2 at *;generalize w2 l i=y at *;clear hev hwl HJ HM;go_wp2_with fail;refine F1.out.mono ?_;rintro e w5 ⟨rfl,hc5⟩;go_wp2_with fail;refine (F2.out _).mono ?_;rintro e w6 ⟨rfl,hw6⟩;rw[hw6]at hc5;have HC6:=zH (HC.out.trans hc5);clear hc5 F1 F2 hw6 HC;go_wp2_with fail
    go_round
    case rel=>exact⟨i+2,s2,by omega,by omega,hj,by go_num,rfl,HJ',HC6⟩
    case measure=>simp[intOf];omega
   ·obtain rfl:i=l.length:=by omega
    have hq:=HJ.out;rw[List.drop_length]at hq;have hq':Hid (s=S):=zH hq;have hI:¬((l.length:Int)<(l.length:Int)):=by omega
    clear HJ HM hq;go_wp2_with fail;go_ret
    exact⟨by rw[←hq'.out];rfl,HC.out⟩
end Go.Proofs.YtgbndaiifbogmaaGreat
namespace Go.Proofs.YtgbndaiifbogmaaGreat
open Go.RowKit
def twoS (n:Nat):List Nat:=[n/256%256,n%256]
theorem two01_any (n:Nat) (hn:n<65536) (w:World) :
  Calls Tryz.prog 62 #[.int .i64 n] w fun e w'=>∃v',e=.returned v'∧w'.ownsRow w.heap.size 5 1 v' (twoS n).length ((twoS n).map byV)∧Chg [] w w':=by
 have h1:bits .and .i64 (n:Int) 65535=(n:Int):=by
  unfold bits;show IntKind.i64.wrap ((BitVec.ofInt 64 (n:Int) &&& BitVec.ofInt 64 65535).toNat:Int)=(n:Int);have e1:(BitVec.ofInt 64 (n:Int))=BitVec.ofNat 64 n:=by simp
  have e2:(BitVec.ofInt 64 65535)=BitVec.ofNat 64 65535:=by decide
  rw[e1,e2,BitVec.toNat_and,BitVec.toNat_ofNat,BitVec.toNat_ofNat,Nat.mod_eq_of_lt (by omega:n<2 ^ 64),Nat.mod_eq_of_lt (by omega:65535<2 ^ 64),show (65535:Nat)=2 ^ 16-1 by rfl,Nat.and_two_pow_sub_one_eq_mod,Nat.mod_eq_of_lt (by omega)];rw[IntKind.wrap_i64];omega
 have HT:Hid (twoS n=[n/256%256,n%256]):=zH rfl;have q1:(n:Int)/256=((n/256:Nat):Int):=rfl;have q2:(n:Int)%256=((n%256:Nat):Int):=rfl;have t1:(n:Int).tdiv 256=((n/256:Nat):Int):=rfl;have t2:(n:Int).tmod 256=((n%256:Nat):Int):=rfl
 have e1:IntKind.u8.wrap ((n/256:Nat):Int)=((n/256%256:Nat):Int):=wrap8 _;have e2:IntKind.u8.wrap ((n%256:Nat):Int)=((n%256:Nat):Int):=by rw[wrap8,Nat.mod_mod]
 have HO:=zH (own_lit (base:=w.heap.size) w 5 1 2 #[byV (n/256%256),byV (n%256)] (Nat.le_refl _) (by simp[maxLen]) rfl);have HA:=zH ((Chg.refl [] w).alloc (.cells #[byV (n/256%256),byV (n%256)] 5));have hb:n/256<256:=by omega
 generalize n/256%256=c at *;generalize n/256=a at *;generalize n%256=b at *;go_enter Tryz.func62,Tryz.ntmps62
 go_wp2_with fail;go_ret
 rw[HT.out];exact⟨_,rfl,HO.out,HA.out⟩
theorem two_four (n:Nat) (hn:n<4294967296):twoS (n/65536)++twoS (n%65536)=fourS n:=by
 simp only[twoS,fourS,List.cons_append,List.nil_append];congr 1
 ·omega
 ·congr 1;congr 1
  ·omega
  ·congr 1;omega
theorem four01_any (n:Nat) (hn:n<4294967296) (w:World) :
  Calls Tryz.prog 63 #[.int .u32 n] w fun e w'=>∃v',e=.returned v'∧w'.ownsRow w.heap.size 5 1 v' (fourS n).length ((fourS n).map byV)∧Chg [] w w':=by
 have HF:=zH (two_four n hn);have q1:(n:Int)/65536=((n/65536:Nat):Int):=rfl;have q2:(n:Int)%65536=((n%65536:Nat):Int):=rfl;have t1:(n:Int).tdiv 65536=((n/65536:Nat):Int):=rfl;have t2:(n:Int).tmod 65536=((n%65536:Nat):Int):=rfl;have hb:n/65536<65536:=by omega
 have hb2:n%65536<65536:=by omega
 generalize n/65536=a at *;generalize n%65536=b at *;have e1:IntKind.i64.wrap (a:Int)=(a:Int):=by rw[IntKind.wrap_i64];omega
 have e2:IntKind.i64.wrap (b:Int)=(b:Int):=by rw[IntKind.wrap_i64];omega
 have F1:=zH (two01_any a hb w);go_enter Tryz.func63,Tryz.ntmps63
 go_wp2_with fail;refine F1.out.mono ?_;rintro e w1 ⟨v1,rfl,hown1,hc1⟩;have F2:=zH (two01_any b hb2 w1);clear F1;go_wp2_with fail;refine F2.out.mono ?_;rintro e w2 ⟨v2,rfl,hown2,hc2⟩;have hown1':=own_chg hown1 hc2 (by simp);have hs2:=Sl.of_own hown2
 have HC:=zH (And.intro (hc1.trans hc2) (own_lt hown1));have hsz:=(hc1.trans hc2).size;clear F2 hown1 hown2 hc1 hc2;go_wp2_with (first
  |(at_builtin;refine wpList_app elY rfl (.tmp 6) (.tmp 10) rfl w.heap.size rfl hown1' rfl hs2 (byV_one _) (by simp[twoS,maxLen]) (by simp[twoS]) hsz ?_;intro v3 w3 hown3 hc3 hb3)
  |fail)
 go_ret
 refine⟨v3,rfl,?_,HC.out.1.trans' hc3 (fun x hx=>.inr (HC.out.2 x hx).1)⟩;rw[←HF.out,List.map_append,List.length_append];exact hown3
theorem twoS_B {n:Nat} (h:n<65536):twoS n=twoB (n:Int):=by
 have e1:((loB ((n:Int)/256):Nat):Int)=(n/256%256:Nat):=by rw[←loB_eq,show ∀n:Int,IntKind.u8.wrap n=n%256 from fun n=>by simp[IntKind.wrap,IntKind.signed,IntKind.bits]];omega
 have e2:((loB (n:Int):Nat):Int)=(n%256:Nat):=by rw[←loB_eq,show ∀n:Int,IntKind.u8.wrap n=n%256 from fun n=>by simp[IntKind.wrap,IntKind.signed,IntKind.bits]];omega
 unfold twoS twoB;rw[show n/256%256=loB ((n:Int)/256) by omega,show n%256=loB (n:Int) by omega]
end Go.Proofs.YtgbndaiifbogmaaGreat
namespace Go.Proofs.YtgbndaiifbogmaaGreat
open Go.RowKit Go.Maps
theorem ocan0_any (w:World):Calls Tryz.prog 171 #[.slice none 0 0] w fun e w'=>e=.returned (.int .i64 0)∧Chg [] w w':=by
 go_enter Tryz.func171,Tryz.ntmps171
 go_wp2_with fail;refine wp_loop_rounds 1 ?_;rw[rounds_succ];go_wp2_with fail;go_ret
 exact⟨rfl,Chg.refl _ _⟩
theorem oput0_any (w:World):Calls Tryz.prog 116 #[.slice none 0 0] w fun e w'=>e=.returned (.tuple #[.slice none 0 0,.int .i64 0])∧Chg [] w w':=by
 have F:=zH (ocan0_any w);go_enter Tryz.func116,Tryz.ntmps116
 go_wp2_with fail;refine F.out.mono ?_;rintro e w1 ⟨rfl,hc1⟩;go_wp2_with fail;refine wp_loop_rounds 1 ?_;rw[rounds_succ];go_wp2_with fail;refine wp_loop_rounds 1 ?_;rw[rounds_succ];go_wp2_with fail;go_ret2
 exact⟨rfl,hc1⟩
theorem tcan0_any (w:World):Calls Tryz.prog 218 #[.slice none 0 0] w fun e w'=>e=.returned (.int .i64 0)∧Chg [] w w':=by
 go_enter Tryz.func218,Tryz.ntmps218
 go_wp2_with fail;refine wp_loop_rounds 1 ?_;rw[rounds_succ];go_wp2_with fail;go_ret
 exact⟨rfl,Chg.refl _ _⟩
end Go.Proofs.YtgbndaiifbogmaaGreat
namespace Go.Proofs.YtgbndaiifbogmaaGreat
open Go.RowKit Go.Maps
theorem cell_ad {w:World} {g:Nat} {t:TypeId} {A:Ad} (h:Blk w g t (arrA A)) (hA:okA A) {i:Nat} (hi:i<16):w.cell? ⟨g,i,none⟩=some (.int .u8 (gB (adB A) i:Nat)):=by
 rw[h.cell,←Array.getElem?_toList,adB_arr hA,List.getElem?_map,gB_some (by rw[adB_len];exact hi)];rfl
theorem take_snoc {l:By} {i:Nat} (hi:i<l.length):l.take (i+1)=l.take i ++ [gB l i]:=by
 rw[List.take_add_one,gB_some hi];rfl
theorem rpseudo_any {src dst:Ad} (hs:okA src) (hd:okA dst) (len next:Int) (w:World) :
  Calls Tryz.prog 100 #[.agg (arrA src),.agg (arrA dst),.int .i64 len,.int .i64 next] w fun e w'=>e=.returned (.int .i64 (sumC 0 (pseudoB src dst len next):Nat))∧Chg [] w w':=by
 have hA:=((Chg.refl [] w).alloc (.cells (arrA src) 24)).alloc (.cells (arrA dst) 24);have hB1:Blk ((w.alloc (.cells (arrA src) 24)).alloc (.cells (arrA dst) 24)) w.heap.size 24 (arrA src):=(Blk.new _ _ _).alloc _
 have hB2:Blk ((w.alloc (.cells (arrA src) 24)).alloc (.cells (arrA dst) 24)) (w.heap.size+1) 24 (arrA dst):=Blk.new' (by simp);have HA:=zH hA;have HPB:Hid (pseudoB src dst len next=adB src++adB dst++fourS (IntKind.u32.wrap len).toNat ++ [0,0,0,loB next]):=zH rfl
 have HPO:=zH (pseudoB_ok hs hd len next);obtain⟨S,hS⟩:∃S,S=sumC 0 (pseudoB src dst len next):=⟨_,rfl⟩;rw[←hS];have HS:=zH hS;obtain⟨W2,hW2⟩:∃W,W=(w.alloc (.cells (arrA src) 24)).alloc (.cells (arrA dst) 24):=⟨_,rfl⟩;rw[←hW2]at HA hB1 hB2;have HW2:=zH hW2
 have HC1:=zH (fun W (hc:Chg [] W2 W) i (hi:i<16)=>cell_ad (hB1.chg hc (by simp)) hs hi);have HC2:=zH (fun W (hc:Chg [] W2 W) i (hi:i<16)=>cell_ad (hB2.chg hc (by simp)) hd hi);have hz2:w.heap.size+2=W2.heap.size:=by rw[hW2];simp
 have HZ2:=zH hz2;clear hS hA hB1 hB2 hW2 hz2;go_enter Tryz.func100,Tryz.ntmps100
 go_wp2_with fail;rw[←HW2.out];go_loopw [9,10] (fun bv iv wr=>∃i:Nat,i≤16∧iv=.int .i64 i∧Hid (OwY wr W2.heap.size bv ((adB src).take i))∧Hid (Chg [] W2 wr)) (fun _ iv _=>16-(intOf iv).toNat)
 case atStart=>exact⟨0,by omega,rfl,zH (OwY.nil _ _),zH (Chg.refl _ _)⟩
 case round=>
  obtain⟨i,hi,rfl,HO,HC⟩:=hrel;by_cases hlt:i<16
  ·have hI:(i:Int)<16:=by omega
   have hcell:=HC1.out wr HC.out i hlt;have HTS:=zH (take_snoc (l:=adB src) (i:=i) (by rw[adB_len];exact hlt));have hlen:((adB src).take i).length=i:=by rw[List.length_take,adB_len];omega
   have hw:IntKind.i64.wrap ((i:Int)+1)=(i:Int)+1:=by rw[IntKind.wrap_i64];omega
   generalize gB (adB src) i=x at *;generalize (adB src).take i=m at *;have hA3:=(Chg.refl [] wr).alloc (.cells #[byV x] 5);have HA3:=zH hA3;have HO3:=zH (own_chg HO.out hA3 (by simp))
   have HT3:Hid (Sl (wr.alloc (.cells #[byV x] 5)) 0 1 (.slice (some ⟨wr.heap.size,0,none⟩) 1 1) 1 ([x].map byV)):=zH (Sl.of_own (own_lit (base:=0) wr 5 1 1 #[byV x] (Nat.zero_le _) (by simp[maxLen]) rfl))
   have hz3:W2.heap.size≤(wr.alloc (.cells #[byV x] 5)).heap.size:=by have:=HC.out.size;simp;omega
   have hl3:=zH (own_lt HO.out);clear hA3;go_wp2_with (first
    |(at_builtin;refine wpList_app elY rfl (.tmp 16) (.tmp 20) rfl W2.heap.size rfl HO3.out rfl HT3.out (byV_one _) (by unfold maxLen;omega) (by omega) hz3 ?_;intro v4 w4 hown4 hc4 hb4)
    |fail)
   go_round
   case rel=>exact⟨i+1,by omega,by go_num,zH (by rw[HTS.out];exact OwY.snoc (m:=[x]) rfl hown4),zH ((HC.out.trans HA3.out).trans' hc4 (fun y hy=>.inr (hl3.out y hy).1))⟩
   case measure=>simp[intOf];omega
  ·have e16:(i:Int)=16:=by omega
   rw[show (adB src).take i=adB src from List.take_of_length_le (by rw[adB_len];omega)]at HO;simp only[e16];clear hlt HC1 e16;go_wp2_with fail
   go_loopw [9,11] (fun bv iv wr=>∃i:Nat,i≤16∧iv=.int .i64 i∧Hid (OwY wr W2.heap.size bv (adB src++(adB dst).take i))∧Hid (Chg [] W2 wr)) (fun _ iv _=>16-(intOf iv).toNat)
   case atStart=>exact⟨0,by omega,rfl,zH (by rw[List.take_zero,List.append_nil];exact HO.out),HC⟩
   case round=>
    obtain⟨i,hi,rfl,HO,HC⟩:=hrel;by_cases hlt:i<16
    ·have hI:(i:Int)<16:=by omega
     have hcell:=HC2.out wr HC.out i hlt;have HTS:=zH (take_snoc (l:=adB dst) (i:=i) (by rw[adB_len];exact hlt));have hlen:(adB src++(adB dst).take i).length=16+i:=by rw[List.length_append,List.length_take,adB_len,adB_len];omega
     have hw:IntKind.i64.wrap ((i:Int)+1)=(i:Int)+1:=by rw[IntKind.wrap_i64];omega
     have HAp:Hid (∀x,adB src++((adB dst).take i ++ [x])=(adB src++(adB dst).take i) ++ [x]):=zH (fun x=>by rw[List.append_assoc]);generalize gB (adB dst) i=x at *;generalize hmm:adB src++(adB dst).take i=m at *;have hA3:=(Chg.refl [] wr).alloc (.cells #[byV x] 5);have HA3:=zH hA3
     have HO3:=zH (own_chg HO.out hA3 (by simp));have HT3:Hid (Sl (wr.alloc (.cells #[byV x] 5)) 0 1 (.slice (some ⟨wr.heap.size,0,none⟩) 1 1) 1 ([x].map byV)):=zH (Sl.of_own (own_lit (base:=0) wr 5 1 1 #[byV x] (Nat.zero_le _) (by simp[maxLen]) rfl))
     have hz3:W2.heap.size≤(wr.alloc (.cells #[byV x] 5)).heap.size:=by have:=HC.out.size;simp;omega
     have hl3:=zH (own_lt HO.out);clear hA3 hmm;go_wp2_with (first
      |(at_builtin;refine wpList_app elY rfl (.tmp 26) (.tmp 30) rfl W2.heap.size rfl HO3.out rfl HT3.out (byV_one _) (by unfold maxLen;omega) (by omega) hz3 ?_;intro v4 w4 hown4 hc4 hb4)
      |fail)
     go_round
     case rel=>exact⟨i+1,by omega,by go_num,zH (by rw[HTS.out,HAp.out];exact OwY.snoc (m:=[x]) rfl hown4),zH ((HC.out.trans HA3.out).trans' hc4 (fun y hy=>.inr (hl3.out y hy).1))⟩
     case measure=>simp[intOf];omega
    ·have e16:(i:Int)=16:=by omega
     rw[show (adB dst).take i=adB dst from List.take_of_length_le (by rw[adB_len];omega)]at HO;simp only[e16];have e1:=loB_eq next;have hN:∃N:Nat,(IntKind.u32.wrap len).toNat=N∧IntKind.u32.wrap len=(N:Int)∧N<4294967296:=⟨_,rfl,wrap32_nat len,by rw[IntKind.wrap_u32'];omega⟩;obtain⟨N,hN1,hN2,hN3⟩:=hN
     have HPB2:=HPB.out;rw[hN1]at HPB2;have HP:=zH HPB2;have F4:=zH (four01_any N hN3 wr);clear hlt HC2 hN1 hN3 HPB2 HPB e16;go_wp2_with fail;refine F4.out.mono ?_;rintro e w5 ⟨v5,rfl,ho5,hc5⟩;have hO5:=own_chg HO.out hc5 (by simp);have HO5:=zH hO5;have HT5:=zH (OwY.sl ho5)
     have HC5:=zH (HC.out.trans hc5);have hl5:=zH (own_lt hO5);have hz5:W2.heap.size≤w5.heap.size:=HC5.out.size;clear F4 ho5 hc5 HO HC hO5;go_upto_region 11 with (first
      |(at_builtin;refine wpList_app elY rfl (.tmp 32) (.tmp 35) rfl W2.heap.size rfl HO5.out rfl HT5.out (byV_one _) (by simp[maxLen,fourS,adB_len]) (by simp[fourS,adB_len]) hz5 ?_;intro v6 w6 hown6 hc6 hb6)
      |fail)
     have HC6:=zH (HC5.out.trans' hc6 (fun y hy=>.inr (hl5.out y hy).1));have hA7:=(Chg.refl [] w6).alloc (.cells #[byV 0,byV 0,byV 0,byV (loB next)] 5);have HO7:=zH (own_chg (OwY.snoc (m:=fourS N) rfl hown6) hA7 (by simp))
     have HT7:Hid (Sl (w6.alloc (.cells #[byV 0,byV 0,byV 0,byV (loB next)] 5)) 0 1 (.slice (some ⟨w6.heap.size,0,none⟩) 4 4) 4 ([0,0,0,loB next].map byV)):=zH (Sl.of_own (own_lit (base:=0) w6 5 1 4 #[byV 0,byV 0,byV 0,byV (loB next)] (Nat.zero_le _) (by simp[maxLen]) rfl))
     have HC7:=zH (HC6.out.trans hA7);have hz7:=HC7.out.size;have hl7:=zH (own_lt HO7.out);clear hown6 hc6 hb6 hA7 HO5 HT5 HC5 hl5 HC6;go_wp2_with (first
      |(at_builtin;refine wpList_app elY rfl (.tmp 37) (.tmp 40) rfl W2.heap.size rfl HO7.out rfl HT7.out (byV_one _) (by simp[maxLen,fourS,adB_len]) (by simp[fourS,adB_len]) hz7 ?_;intro v8 w8 hown8 hc8 hb8)
      |fail)
     have HC8:=zH (HC7.out.trans' hc8 (fun y hy=>.inr (hl7.out y hy).1));have hO8:=OwY.snoc (m:=[0,0,0,loB next]) rfl hown8;rw[←HP.out]at hO8;have FS:=zH (rsum_any (Sl.less (OwY.sl hO8) (Nat.zero_le _)) HPO.out (by rw[HP.out];simp[fourS,adB_len]));rw[←HS.out]at FS;clear hown8 hc8 hO8 HO7 HT7 HC7 hl7
     refine FS.out.mono ?_;rintro e w9 ⟨rfl,hc9⟩;go_wp2_with fail;go_ret
     exact⟨rfl,HA.out.trans (HC8.out.trans hc9)⟩
end Go.Proofs.YtgbndaiifbogmaaGreat
