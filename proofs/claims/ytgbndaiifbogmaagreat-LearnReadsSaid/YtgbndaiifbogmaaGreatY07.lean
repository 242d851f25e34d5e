/-
  Small laws and walks on the way to LearnReads: Ck2, ConnD, Lw1, Ck3. Conditions: each theorem names its own.
-/
import Derived.Test.YtgbndaiifbogmaaGreatY06
import Derived.Test.YtgbndaiifbogmaaGreatY01
set_option linter.unusedVariables false
set_option linter.unusedSimpArgs false
set_option maxRecDepth 100000
set_option maxHeartbeats 8000000
namespace Go.Proofs.YtgbndaiifbogmaaGreat
open Go.RowKit Go.Maps
theorem sly_blk {w:World} {g:Nat} {t:TypeId} {cs:Array Value} {l:By} (h:Blk w g t cs) (e:cs.toList=l.map byV):SlY w 0 (.slice (some ⟨g,0,none⟩) l.length l.length) l:=
 ⟨by simp,_,_,rfl,Nat.le_refl _,fun _=>⟨g,0,rfl,Nat.zero_le _,fun j u hu=>by
  rw[Nat.zero_add,h.cell,←Array.getElem?_toList,e];exact hu⟩⟩
theorem slv_blk {w:World} {g:Nat} {t:TypeId} {cs:Array Value} (h:Blk w g t cs):Sl w 0 1 (.slice (some ⟨g,0,none⟩) cs.size cs.size) cs.size cs.toList:=
 ⟨by simp,_,_,rfl,Nat.le_refl _,fun _=>⟨g,0,rfl,Nat.zero_le _,fun j u hu=>by
  rw[Nat.zero_add,h.cell,←Array.getElem?_toList];exact hu⟩⟩
theorem csum1_any {w:World} {B:Nat} {v:Value} {l:By} (h:SlY w B v l) (hb:okB l) (hl:l.length≤1000000) :
  Calls Tryz.prog 309 #[v] w fun e w'=>e=.returned (.int .i64 (sumC 0 l:Nat))∧Chg [] w w':=by
 have hA:=(Chg.refl [] w).alloc (.cells #[v] 22);have hbl:Blk (w.alloc (.cells #[v] 22)) w.heap.size 22 #[v]:=Blk.new _ _ _;have hL:SlL (w.alloc (.cells #[v] 22)) 0 (.slice (some ⟨w.heap.size,0,none⟩) 1 1) [v] [l]:=⟨slv_blk hbl,rfl,fun i v' l' h1 h2=>by
  match i with
  |0=>
   simp at h1 h2;subst h1;subst h2;exact⟨(h.chg0 hA).less (Nat.zero_le _),hb,hl⟩
  |i+1=>simp at h1⟩
 have F1:=zH (csum_any hL (by simp));have HE:Hid (sumL [l]=sumC 0 l):=zH rfl;have HA:=zH hA;obtain⟨A,c,rfl⟩:=h.form;generalize sumC 0 l=s at *;generalize sumL [l]=s1 at *;clear h hb hl hA hbl hL;go_enter Tryz.func309,Tryz.ntmps309
 go_wp2_with fail;refine F1.out.mono ?_;rintro e w1 ⟨rfl,rfl⟩;go_wp2_with fail;go_ret
 exact⟨by rw[←HE.out];rfl,HA.out⟩
theorem cnot_any {s:Nat} (h:s<4294967296) (w:World):Calls Tryz.prog 282 #[.int .i64 s] w fun e w'=>e=.returned (.int .i64 (notC s:Nat))∧w=w':=by
 have F1:=zH (clow_any h w);have HN:Hid (notC s=65535-s%65536):=zH rfl;have h1:s%65536<65536:=by omega
 generalize s%65536=x at *;have hw:IntKind.i64.wrap (65535-(x:Int))=((65535-x:Nat):Int):=by rw[IntKind.wrap_i64];omega
 generalize 65535-x=y at *;clear h h1;go_enter Tryz.func282,Tryz.ntmps282
 go_wp2_with fail;refine F1.out.mono ?_;rintro e w1 ⟨rfl,rfl⟩;go_wp2_with fail;go_ret
 exact⟨by rw[HN.out];rfl,rfl⟩
theorem adB_arr {A:Ad} (h:okA A):(arrA A).toList=(adB A).map byV:=(adB_enc h).symm
theorem pseudo_sum (src dst:Ad) (len next:Int):sumL [adB src,adB dst,fourS (IntKind.u32.wrap len).toNat,[0,0,0,loB next]]=sumC 0 (pseudoB src dst len next):=by
 unfold pseudoB;rw[sumC_app _ _ _ (by simp[adB_len,fourS]),sumC_app _ _ _ (by simp[adB_len]),sumC_app _ _ _ (by simp[adB_len])];rfl
theorem step_run {P:Program} {ops:Array Oper} {op:Oper} {a:Act} {w w':World} {v:Value} {K:Act→World→Prop} {Q:Exit→Act→World→Prop} {E:Prop} (hgd:op.guard=none) (hrun:(execOp a.eval op).run P w=.ok (.value v) w')
  (h:K (a.put op.dst v) w'):if Region.wanted op (yielded ops a.tmps)=true then Oper.wp P op a w K Q else E:=by
 rw[if_pos (by simp[Region.wanted,hgd])];unfold Oper.wp;simp only[hrun];exact h
theorem four_pieces {w:World} {g1 g2 g4 g5:Nat} {v3:Value} {src dst:Ad} {len next:Int} (hs:okA src) (hd:okA dst) (h1:Blk w g1 24 (arrA src)) (h2:Blk w g2 24 (arrA dst))
  (h3:SlY w 0 v3 (fourS (IntKind.u32.wrap len).toNat)) (h4:Blk w g4 5 #[.int .u8 0,.int .u8 0,.int .u8 0,.int .u8 (loB next:Nat)])
  (h5:Blk w g5 22 #[.slice (some ⟨g1,0,none⟩) 16 16,.slice (some ⟨g2,0,none⟩) 16 16,v3,.slice (some ⟨g4,0,none⟩) 4 4]) :
  Calls Tryz.prog 328 #[.slice (some ⟨g5,0,none⟩) 4 4] w fun e w'=>e=.returned (.int .i64 (sumC 0 (pseudoB src dst len next):Nat))∧w=w':=by
 have k1:=sly_blk h1 (adB_arr hs);have k2:=sly_blk h2 (adB_arr hd);have k4:=sly_blk (l:=[0,0,0,loB next]) h4 rfl;have o1:okB (adB src):=adB_lt hs;have o2:okB (adB dst):=adB_lt hd;have o4:okB [0,0,0,loB next]:=by intro x hx;simp at hx;rcases hx with rfl|rfl<;>first|omega|exact loB_lt _
 have hL:SlL w 0 (.slice (some ⟨g5,0,none⟩) 4 4) [.slice (some ⟨g1,0,none⟩) 16 16,.slice (some ⟨g2,0,none⟩) 16 16,v3,.slice (some ⟨g4,0,none⟩) 4 4] [adB src,adB dst,fourS (IntKind.u32.wrap len).toNat,[0,0,0,loB next]]:=
  ⟨slv_blk h5,rfl,fun i v l e1 e2=>by
   match i with
   |0=>simp at e1 e2;subst e1;subst e2;exact⟨k1,o1,by rw[adB_len];omega⟩
   |1=>simp at e1 e2;subst e1;subst e2;exact⟨k2,o2,by rw[adB_len];omega⟩
   |2=>simp at e1 e2;subst e1;subst e2;exact⟨h3,fourS_lt,by simp[fourS]⟩
   |3=>simp at e1 e2;subst e1;subst e2;exact⟨k4,o4,by simp⟩
   |i+4=>simp at e1⟩
 rw[←pseudo_sum];exact csum_any hL (by simp)
theorem pseudo_any {src dst:Ad} (hs:okA src) (hd:okA dst) (len next:Int) (w:World) :
  Calls Tryz.prog 308 #[src.v,dst.v,.int .i64 len,.int .i64 next] w fun e w'=>e=.returned (.int .i64 (sumC 0 (pseudoB src dst len next):Nat))∧Chg [] w w':=by
 have e1:=wrap32_nat len;have e2:=loB_eq next;have HF:Hid (∀{w:World} {g1 g2 g4 g5:Nat} {v3:Value},Blk w g1 24 (arrA src)→Blk w g2 24 (arrA dst)→SlY w 0 v3 (fourS (IntKind.u32.wrap len).toNat)→Blk w g4 5 #[.int .u8 0,.int .u8 0,.int .u8 0,.int .u8 (loB next:Nat)] →
  Blk w g5 22 #[.slice (some ⟨g1,0,none⟩) 16 16,.slice (some ⟨g2,0,none⟩) 16 16,v3,.slice (some ⟨g4,0,none⟩) 4 4] →
  Calls Tryz.prog 328 #[.slice (some ⟨g5,0,none⟩) 4 4] w fun e w'=>e=.returned (.int .i64 (sumC 0 (pseudoB src dst len next):Nat))∧w=w'):=zH (four_pieces hs hd)
 have hA:=((Chg.refl [] w).alloc (.cells (arrA src) 24)).alloc (.cells (arrA dst) 24);have hB1:Blk ((w.alloc (.cells (arrA src) 24)).alloc (.cells (arrA dst) 24)) w.heap.size 24 (arrA src):=(Blk.new _ _ _).alloc _
 have hB2:Blk ((w.alloc (.cells (arrA src) 24)).alloc (.cells (arrA dst) 24)) (w.heap.size+1) 24 (arrA dst):=Blk.new' (by simp)
 have HFP:=zH (fun (W:World) (hc:Chg [] ((w.alloc (.cells (arrA src) 24)).alloc (.cells (arrA dst) 24)) W)=>put32_any (w:=W) (base:=W.heap.size) (v:=.slice none 0 0) (l:=[]) (World.ownsRow_nil ..) (by simp) (Nat.le_refl _) (IntKind.u32.wrap len).toNat);have HI:=zH (And.intro hA (And.intro hB1 hB2))
 generalize hq:sumC 0 (pseudoB src dst len next)=q at *;generalize (IntKind.u32.wrap len).toNat=n at *;clear hs hd hA hB1 hB2 hq;go_enter Tryz.func308,Tryz.ntmps308
 go_upto_region 1 with fail
 obtain⟨hA,hB1,hB2⟩:=HI.out;generalize ((w.alloc (.cells (arrA src) 24)).alloc (.cells (arrA dst) 24))=w0 at *;have HI2:=zH (And.intro hB1 hB2);clear hA hB1 hB2;have hS0:Chg [] w0 w0.drew:=(Chg.refl [] w0).drew;refine wp_region_held_drew (S:=Chg [] w0) (by kernel_rfl) hS0 (fun _=>?_)
 refine zU 0 rfl (by go_simp<;>with_reducible rfl) ?_
 try simp only[zP]
 refine zU 1 rfl (by go_simp<;>with_reducible rfl) ?_
 try simp only[zP]
 refine zU 2 rfl (by go_simp<;>with_reducible rfl) ?_
 try simp only[zP]
 refine zU 3 rfl (by go_simp<;>with_reducible rfl) ?_
 try simp only[zP]
 refine zU 5 rfl (by go_simp<;>with_reducible rfl) ?_
 try simp only[zP]
 refine zU 6 rfl (by go_simp<;>with_reducible rfl) ?_
 try simp only[zP]
 refine wpAnyH_ready (rs:=[4,7]) (by kernel_rfl) (by simp) (AllReadyH.cons rfl (fun K hK=>?_) (AllReadyH.cons rfl (fun K hK=>?_) AllReadyH.nil))
 ·go_simp
  refine (HFP.out _ hS0).mono ?_;rintro e w3 ⟨v3,rfl,hr3,hc3⟩;have hS3:Chg [] w0 w3:=hS0.trans (hc3.more (by simp[Value.ownBlock]));have hs3:SlY w3 0 v3 (fourS n):=SlY.less (Sl.of_own hr3) (Nat.zero_le _);obtain⟨A3,c3,rfl⟩:=hs3.form;clear hr3 hc3;refine zB hK ?_;clear hK K
  try simp only[zP]
  refine zR 7 rfl (fun K hK=>?_);refine step_run (v:=.slice (some ⟨w3.heap.size,0,none⟩) 4 4) (w':=w3.alloc (.cells #[.int .u8 0,.int .u8 0,.int .u8 0,.int .u8 (loB next:Nat)] 5)) rfl (by go_simp<;>rfl) ?_
  have hS4:Chg [] w0 (w3.alloc (.cells #[.int .u8 0,.int .u8 0,.int .u8 0,.int .u8 (loB next:Nat)] 5)):=hS3.alloc _;have hB4:Blk (w3.alloc (.cells #[.int .u8 0,.int .u8 0,.int .u8 0,.int .u8 (loB next:Nat)] 5)) w3.heap.size 5 #[.int .u8 0,.int .u8 0,.int .u8 0,.int .u8 (loB next:Nat)]:=Blk.new _ _ _
  have hs4:=hs3.chg0 ((Chg.refl [] w3).alloc (.cells #[.int .u8 0,.int .u8 0,.int .u8 0,.int .u8 (loB next:Nat)] 5));generalize hg4:w3.heap.size=g4 at *;generalize w3.alloc (.cells #[.int .u8 0,.int .u8 0,.int .u8 0,.int .u8 (loB next:Nat)] 5)=w5 at *;clear hs3 hg4;refine zB hK ?_;clear hK K
  try simp only[zP]
  have hc6:Chg [] w0 (w5.alloc (.cells #[.slice (some ⟨w.heap.size,0,none⟩) 16 16,.slice (some ⟨w.heap.size+1,0,none⟩) 16 16,.slice A3 (fourS n).length c3,.slice (some ⟨g4,0,none⟩) 4 4] 22)):=(hS4).alloc _;refine zR 8 rfl (fun K hK=>?_)
  refine step_run (v:=.slice (some ⟨(w5).heap.size,0,none⟩) 4 4) (w':=(w5).alloc (.cells #[.slice (some ⟨w.heap.size,0,none⟩) 16 16,.slice (some ⟨w.heap.size+1,0,none⟩) 16 16,.slice A3 (fourS n).length c3,.slice (some ⟨g4,0,none⟩) 4 4] 22)) rfl (by go_simp<;>rfl) ?_;refine zB hK ?_;clear hK K
  try simp only[zP]
  refine zR 9 rfl (fun K hK=>?_);go_simp
  refine (HF.out (HI2.out.1.chg hc6 (by simp)) (HI2.out.2.chg hc6 (by simp)) (SlY.chg0 (hs4) ((Chg.refl [] _).alloc _)) ((hB4).alloc _) (Blk.new _ _ _)).mono ?_;rintro e w7 ⟨rfl,rfl⟩;refine zB hK ?_;clear hK K
  try simp only[zP]
  refine zU 10 rfl (by go_simp<;>with_reducible rfl) ?_
  try simp only[zP]
  refine wpAnyH_done (by kernel_rfl) ?_ _;go_wp2_with fail;go_ret
  exact⟨rfl,HI.out.1.trans hc6⟩
 ·refine step_run (v:=.slice (some ⟨w0.heap.size,0,none⟩) 4 4) (w':=w0.drew.alloc (.cells #[.int .u8 0,.int .u8 0,.int .u8 0,.int .u8 (loB next:Nat)] 5)) rfl (by go_simp<;>rfl) ?_;have hS4:Chg [] w0 (w0.drew.alloc (.cells #[.int .u8 0,.int .u8 0,.int .u8 0,.int .u8 (loB next:Nat)] 5)):=hS0.alloc _
  have hB4:Blk (w0.drew.alloc (.cells #[.int .u8 0,.int .u8 0,.int .u8 0,.int .u8 (loB next:Nat)] 5)) w0.heap.size 5 #[.int .u8 0,.int .u8 0,.int .u8 0,.int .u8 (loB next:Nat)]:=Blk.new' rfl;generalize w0.heap.size=g4 at *
  generalize w0.drew.alloc (.cells #[.int .u8 0,.int .u8 0,.int .u8 0,.int .u8 (loB next:Nat)] 5)=w4 at *;refine zB hK ?_;clear hK K
  try simp only[zP]
  refine zR 4 rfl (fun K hK=>?_);go_simp
  refine (HFP.out _ hS4).mono ?_;rintro e w5 ⟨v3,rfl,hr3,hc3⟩;have hc3':Chg [] w4 w5:=hc3.more (by simp[Value.ownBlock]);have hS5:Chg [] w0 w5:=hS4.trans hc3';have hs5:SlY w5 0 v3 (fourS n):=SlY.less (Sl.of_own hr3) (Nat.zero_le _);obtain⟨A3,c3,rfl⟩:=hs5.form;have hB5:=hB4.chg hc3' (by simp)
  clear hr3 hc3 hc3' hB4;refine zB hK ?_;clear hK K
  try simp only[zP]
  have hc6:Chg [] w0 (w5.alloc (.cells #[.slice (some ⟨w.heap.size,0,none⟩) 16 16,.slice (some ⟨w.heap.size+1,0,none⟩) 16 16,.slice A3 (fourS n).length c3,.slice (some ⟨g4,0,none⟩) 4 4] 22)):=(hS5).alloc _;refine zR 8 rfl (fun K hK=>?_)
  refine step_run (v:=.slice (some ⟨(w5).heap.size,0,none⟩) 4 4) (w':=(w5).alloc (.cells #[.slice (some ⟨w.heap.size,0,none⟩) 16 16,.slice (some ⟨w.heap.size+1,0,none⟩) 16 16,.slice A3 (fourS n).length c3,.slice (some ⟨g4,0,none⟩) 4 4] 22)) rfl (by go_simp<;>rfl) ?_;refine zB hK ?_;clear hK K
  try simp only[zP]
  refine zR 9 rfl (fun K hK=>?_);go_simp
  refine (HF.out (HI2.out.1.chg hc6 (by simp)) (HI2.out.2.chg hc6 (by simp)) (SlY.chg0 (hs5) ((Chg.refl [] _).alloc _)) ((hB5).alloc _) (Blk.new _ _ _)).mono ?_;rintro e w7 ⟨rfl,rfl⟩;refine zB hK ?_;clear hK K
  try simp only[zP]
  refine zU 10 rfl (by go_simp<;>with_reducible rfl) ?_
  try simp only[zP]
  refine wpAnyH_done (by kernel_rfl) ?_ _;go_wp2_with fail;go_ret
  exact⟨rfl,HI.out.1.trans hc6⟩
end Go.Proofs.YtgbndaiifbogmaaGreat
namespace Go.Proofs.YtgbndaiifbogmaaGreat
open Go.RowKit Go.Maps
theorem wpList_delete_om2 {P:Program} {k e:TypeId} {κ:Type} [DecidableEq κ] {K:KV P k κ} {ops:Array Oper} {rest:List Oper} {o:Oper} {a:Act} {w:World} {Q:Exit→Act→World→Prop} {b n s:Nat} {M:κ→Option Value} (hg:o.guard=none) (m x:Operand) (t:TypeId)
  (hop:o.op=.call {callee:=.builtin .delete,args:=#[m,x],argTypes:=#[t,k]}) (ht:P.underlying t=some (.map k e)) (hm:a.eval m=.map (some b)) (h:OM K w b n M s) (y:κ) (hy:K.ok y) (hx:a.eval x=K.val y)
  (hK:∀w',OM K w' b n (fun z=>if z=y then none else M z) (if (M y).isSome then s-1 else s)→Chg [b] w w'→wpList P ops Q rest (a.put o.dst (.tuple #[])) w'):wpList P ops Q (o::rest) a w:=by
 refine wpList_plain hg fun K' hK'=>?_
 obtain⟨w',hr,h1,h2⟩:=h.del ht hy o.type;unfold Oper.wp execOp;simp only[hop,resolve,invoke,builtin,Sem.run_bind,Sem.run_pure,Result.andThen_ok,List.map_toArray,List.map_cons,List.map_nil,hm,hx,hr];exact hK' _ _ (hK w' h1 h2)
theorem step_delete_om {P:Program} {k e:TypeId} {κ:Type} [DecidableEq κ] {K0:KV P k κ} {ops:Array Oper} {o:Oper} {a:Act} {w:World} {K:Act→World→Prop} {Q:Exit→Act→World→Prop} {E:Prop} {b n s:Nat} {M:κ→Option Value} (hgd:o.guard=none) (m x:Operand) (t:TypeId)
  (hop:o.op=.call {callee:=.builtin .delete,args:=#[m,x],argTypes:=#[t,k]}) (ht:P.underlying t=some (.map k e)) (hm:a.eval m=.map (some b)) (h:OM K0 w b n M s) (y:κ) (hy:K0.ok y) (hx:a.eval x=K0.val y)
  (hK:∀w',OM K0 w' b n (fun z=>if z=y then none else M z) (if (M y).isSome then s-1 else s)→Chg [b] w w'→K (a.put o.dst (.tuple #[])) w'):if Region.wanted o (yielded ops a.tmps)=true then Oper.wp P o a w K Q else E:=by
 rw[if_pos (by simp[Region.wanted,hgd])];obtain⟨w',hr,h1,h2⟩:=h.del ht hy o.type;unfold Oper.wp execOp;simp only[hop,resolve,invoke,builtin,Sem.run_bind,Sem.run_pure,Result.andThen_ok,List.map_toArray,List.map_cons,List.map_nil,hm,hx,hr];exact hK w' h1 h2
def DrTo (w:World) (tb m1 m2 m3 q nn:Nat) (vs:Value) (sq:Int) (its:List It) (c:TC) (p:En×Int) (w':World):Prop:=
 ∃vs' its',CtR w' tb m1 m2 m3 q nn vs' sq its' (dropC c p.1.fl)∧its'.Perm (stayI p.2 its)∧Chg (footT tb m1 m2 m3 q vs) w w'∧∀x∈footQ q vs',x∈footQ q vs∨w.heap.size≤x
section
variable {w:World} {tb m1 m2 m3 q nn:Nat} {vs:Value} {sq:Int} {its:List It} {c:TC}
theorem CtR.dr_fin {w3 w5 w6 w7 w8:World} {K:Nat} {p:En×Int} {s2 s3:Nat} (h:CtR w tb m1 m2 m3 q nn vs sq its c) (hci:CI K c) (hp:p∈c.l) (hc3:Chg [] w w3)
  (hT:Turned w3 q vs sq (fun l'=>l'.Perm (stayI p.2 its)) w5)
  (o3:OM KZc w6 m3 nn (fun z=>if z=p.2 then none else mF c.l z) s3) (hc6:Chg [m3] w5 w6)
  (o2:OM KF w7 m2 nn (fun z=>if z=p.1.fl then none else mN c.l z) s2) (hc7:Chg [m2] w6 w7)
  (o1:OM KF w8 m1 nn (fun z=>if z=p.1.fl then none else mE c.l z) (if (mE c.l p.1.fl).isSome then c.l.length-1 else c.l.length)) (hc8:Chg [m1] w7 w8):DrTo w tb m1 m2 m3 q nn vs sq its c p w8:=by
 obtain⟨vs',its',hqr,hok,hpm,hcq,hfq⟩:=hT;obtain⟨d1,d2,d3,d4,d5,d6⟩:=h.d1;obtain⟨f1,f2,f3,f4⟩:=h.d2;have hz3:=hc3.size;have hlt:=h.lt;have key:∀{x:Nat},x∈footT tb m1 m2 m3 q vs→x∉footQ q vs→x∉footQ q vs':=fun {x} hx hn hm=>(hfq x hm).elim hn (fun h3=>by have:=hlt x hx;omega)
 have g1:=key (x:=tb) (by simp[footT]) f1;have g2:=key (x:=m1) (by simp[footT]) f2;have g3:=key (x:=m2) (by simp[footT]) f3;have g4:=key (x:=m3) (by simp[footT]) f4;have hget:getC c p.1.fl=some p:=hci.get hp
 refine⟨vs',its',⟨?_,?_,⟨s2,?_⟩,⟨s3,?_⟩,?_,h.d1,g1,g2,g3,g4⟩,hpm,?_,fun x hx=>(hfq x hx).imp id (fun k=>Nat.le_trans hz3 k)⟩
 ·exact ((((h.blk.chg hc3 (by simp)).chg hcq f1).chg hc6 (by simpa using d3)).chg hc7 (by simpa using d2)).chg hc8 (by simpa using d1)
 ·show OM KF w8 m1 nn (mE (dropL c.l p.1.fl)) (dropL c.l p.1.fl).length;have hs:(mE c.l p.1.fl).isSome=true:=by
   unfold mE;unfold getC at hget;rw[hget];rfl
  rw[hs,if_pos rfl]at o1;have hs2:(c.l.find? fun p'=>decide (flC p'=p.1.fl)).isSome=true:=by unfold getC at hget;rw[hget];rfl
  rw[mE_drop,drop_len hci.nd,if_pos hs2];exact o1
 ·show OM KF w8 m2 nn (mN (dropL c.l p.1.fl)) s2;rw[mN_drop];exact o2.chg hc8 (by simpa using Ne.symm d4)
 ·show OM KZc w8 m3 nn (mF (dropL c.l (flC p))) s3;rw[mF_drop hci hp];exact (o3.chg hc7 (by simpa using Ne.symm d6)).chg hc8 (by simpa using Ne.symm d5)
 ·exact (((⟨hqr,hok⟩:QU w5 q vs' sq its').chg hc6 (by intro x hx e;simp at e;subst e;exact g4 hx)).chg hc7 (by intro x hx e;simp at e;subst e;exact g3 hx)).chg hc8 (by intro x hx e;simp at e;subst e;exact g2 hx)
 ·exact ((((hc3.more (by simp)).trans (hcq.more (fun x hx=>by simp[footT];exact .inr (.inr (.inr (.inr hx)))))).trans (hc6.more (by simp[footT]))).trans (hc7.more (by simp[footT]))).trans (hc8.more (by simp[footT]))
theorem cdrop_some {K:Nat} (h:CtR w tb m1 m2 m3 q nn vs sq its c) (hci:CI K c) (hK:K≤1000) (hl:its.length≤2900) {p:En×Int} (hp:p∈c.l) :
  Calls Tryz.prog 151 #[.pointer (some ⟨tb,0,none⟩),p.1.fl.v] w fun e w'=>e=.returned (.bool true)∧DrTo w tb m1 m2 m3 q nn vs sq its c p w':=by
 have hkf:okF p.1.fl:=hci.ok p hp;have hkz:(Lit.int .i64 p.2).wf=true:=wf_c (by have:=(hci.lo p hp).1;omega) (by have:=(hci.lo p hp).2;have:=hci.la;omega);have hget:getC c p.1.fl=some p:=hci.get hp;have hcA:=(Chg.refl [] w).alloc (.cells (arrF p.1.fl) 46)
 have hBf:Blk (w.alloc (.cells (arrF p.1.fl) 46)) w.heap.size 46 (arrF p.1.fl):=Blk.new _ _ _;have F0:Hid (∀W,Chg [] w W→Calls Tryz.prog 73 #[.pointer (some ⟨tb,0,none⟩),p.1.fl.v] W fun e w'=>e=.returned (.tuple #[.agg (arrN p.1),.bool true])∧Chg [] W w'):=zH (fun W hc=>by
  have:=cfind_any (h.chg0 hc) hkf;unfold hasC at this;rw[hget]at this;exact this)
 have HL:Hid (∀W,Chg [] w W→(Instr.lookup 195 (.map (some m2)) p.1.fl.v false).run Tryz.prog W=.ok (.int .i64 p.2) W):=zH fun W hc=>by
  obtain⟨s2,h2⟩:=(h.chg0 hc).on;have:=h2.look Tryz.underlying195 (z:=.int .i64 0) (by kernel_rfl) (x:=p.1.fl) hkf;have e1:(mN c.l p.1.fl).getD (.int .i64 0)=.int .i64 p.2:=by
   unfold mN;unfold getC at hget;rw[hget];rfl
  rw[e1]at this;exact this
 have FR:=zH (fun W (hc:Chg [] w W)=>qrem_any (h.chg0 hc).qu hl p.2);have HP:Hid (∀w e w',RemPost w q vs sq its p.2 e w'=((∃n:Int,e=.returned (.int .i64 n))∧Turned w q vs sq (fun l'=>l'.Perm (stayI p.2 its)) w')):=zH fun _ _ _=>rfl
 have HI:=zH (And.intro h (And.intro hcA hBf));have HZ:=zH (And.intro hkf hkz);have HX:=zH (And.intro hci hp);have hszA:(w.alloc (.cells (arrF p.1.fl) 46)).heap.size=w.heap.size+1:=by simp
 clear h hcA hBf hkf hkz hget hci hp hl;generalize hen:p.1=en at *;generalize hno:p.2=no at *;go_enter Tryz.func151,Tryz.ntmps151
 go_upto_region 1 with fail
 generalize w.alloc (.cells (arrF en.fl) 46)=w1 at *;have FF:=zH (F0.out w1 HI.out.2.1);have hBr:=HI.out.2.2.rangeQ;have H1sz:=zH hszA;generalize hg:w.heap.size=gf at *;clear hszA;go_wp2_with (first
  |(refine wpList_row 46 (.tmp 3) rfl rfl gf 0 rfl (arrF en.fl) _ hBr Tryz.underlying46 rfl infF ?_)
  |fail)
 refine FF.out.mono ?_;rintro e w2 ⟨rfl,hc2⟩;clear FF;have hBl:Blk (w2.alloc (.cells arrN0 108)) w2.heap.size 108 arrN0:=Blk.new _ _ _;have HC2:=zH (hc2.trans ((Chg.refl [] w2).alloc (.cells arrN0 108)));have HZ2:=zH hc2.size;clear hc2;go_wp2_with (first
  |(refine zs rfl 108 _ _ rfl rfl hBl rfl rfl rfl (infN (e:=en)) rfl ?_;intro w3 hB3 hc3)
  |fail)
 have HC3:Hid (Chg [] w1 w3):=zH (HC2.out.trans' hc3 (by intro y hy;simp at hy;subst hy;exact .inr HZ2.out));clear hBl HC2 hB3 hc3;go_upto_region 4 with fail
 have HCC:Chg [] w w3:=HI.out.2.1.trans HC3.out;have hS0:Chg [] w3 w3.drew:=(Chg.refl [] w3).drew;have HC0:∀W,Chg [] w3 W→W.cell? ⟨tb,4,none⟩=some (.map (some m2)):=fun W hc=>(HCC.trans hc).cell (HI.out.1.blk.cell 4) (by simp)
 have HRF:∀W,Chg [] w3 W→W.rangeAt gf 0 (arrF en.fl).toList:=fun W hc=>(HI.out.2.2.chg (HC3.out.trans hc) (by simp)).rangeQ
 have HLK:∀W,Chg [] w3 W→(Instr.lookup 195 (.map (some m2)) en.fl.v false).run Tryz.prog W=.ok (.int .i64 no) W:=fun W hc=>HL.out W (HCC.trans hc)
 refine wp_region_noPanic ?_;refine wp_region_held_drew (S:=Chg [] w3) (by kernel_rfl) hS0 (fun _=>?_);refine zU 0 rfl (by go_simp<;>with_reducible rfl) ?_
 try simp only[zP]
 refine zU 1 rfl (by go_simp<;>with_reducible rfl) ?_
 try simp only[zP]
 refine zU 2 rfl (by go_simp<;>with_reducible rfl) ?_
 try simp only[zP]
 refine zT 3 rfl (zc (by rfl) 195 (.tmp 18) rfl tb 4 rfl (.map (some m2)) _ HC0 Tryz.underlying195 rfl) ?_
 try simp only[zP]
 refine zT 4 rfl (yields_row (by rfl) 46 (.tmp 3) rfl gf 0 rfl (arrF en.fl) _ HRF Tryz.underlying46 rfl infF) ?_
 try simp only[zP]
 refine zT 5 rfl (yields_lookup (by rfl) 195 (.tmp 19) (.tmp 20) rfl rfl rfl (HLK)) ?_
 try simp only[zP]
 refine zU 6 rfl (by go_simp<;>with_reducible rfl) ?_
 try simp only[zP]
 refine wpAnyH_done (by kernel_rfl) ?_ _;refine NoPanic.normal ?_;clear hS0 HC0 HRF HLK;have HC4:=zH HCC.drew;have HB4:=zH (HI.out.2.2.chg HC3.out.drew (by simp));clear HCC HC3;generalize w3.drew=w4 at *;have F1:=zH (FR.out w4 HC4.out)
 have c6:w4.cell? ⟨tb,6,none⟩=some (.pointer (some ⟨q,0,none⟩)):=HC4.out.cell (HI.out.1.blk.cell 6) (by simp);go_wp2_with fail;refine F1.out.mono ?_;rintro e w5 hR;rw[HP.out]at hR;obtain⟨⟨nr,rfl⟩,hT⟩:=hR;clear F1 c6;have hcq:Chg (footQ q vs) w4 w5:=by obtain⟨_,_,_,_,_,h4,_⟩:=hT;exact h4
 have HT:=zH hT;have HQ5:=zH hcq;have hB5:=HB4.out.chg hcq (by
  intro hx;have:=HI.out.1.lt gf (by simp[footT];exact .inr (.inr (.inr (.inr hx))));omega)
 have c5:w5.cell? ⟨tb,5,none⟩=some (.map (some m3)):=hcq.cell (HC4.out.cell (HI.out.1.blk.cell 5) (by simp)) HI.out.1.d2.1;have HO3:Hid (∃s,OM KZc w5 m3 nn (mF c.l) s):=zH (by
  obtain⟨s3,h3⟩:=HI.out.1.of;exact⟨s3,(h3.chg0 HC4.out).chg hcq HI.out.1.d2.2.2.2⟩)
 obtain⟨s3,o3⟩:=HO3.out;clear hT hcq HO3;go_wp2_with (first
  |(refine wpList_delete_om2 rfl _ _ _ rfl Tryz.underlying196 rfl o3 no HZ.out.2 rfl ?_;intro w6 o6 hc6)
  |fail)
 have HO6:=zH o6;have HC6:=zH hc6;have hB6:=hB5.chg hc6 (by
  have:=HI.out.1.lt m3 (by simp[footT]);simp;omega)
 clear o6 hc6 o3 c5 hB5;go_upto_region 7 with fail
 have hT4:w6.cell? ⟨tb,4,none⟩=some (.map (some m2)):=HC6.out.cell (HQ5.out.cell (HC4.out.cell (HI.out.1.blk.cell 4) (by simp)) HI.out.1.d2.1) (by simpa using HI.out.1.d1.2.2.1)
 have hT3:w6.cell? ⟨tb,3,none⟩=some (.map (some m1)):=HC6.out.cell (HQ5.out.cell (HC4.out.cell (HI.out.1.blk.cell 3) (by simp)) HI.out.1.d2.1) (by simpa using HI.out.1.d1.2.2.1);have HO2:Hid (∃s,OM KF w6 m2 nn (mN c.l) s):=zH (by
  obtain⟨s2,h2⟩:=HI.out.1.on;exact⟨s2,(((h2.chg0 HC4.out).chg HQ5.out HI.out.1.d2.2.2.1).chg HC6.out (by simpa using HI.out.1.d1.2.2.2.2.2))⟩)
 have HO1:Hid (OM KF w6 m1 nn (mE c.l) c.l.length):=zH (((HI.out.1.oe.chg0 HC4.out).chg HQ5.out HI.out.1.d2.2.1).chg HC6.out (by simpa using HI.out.1.d1.2.2.2.2.1));have g2:gf≠m2:=by have:=HI.out.1.lt m2 (by simp[footT]);omega
 have g1:gf≠m1:=by have:=HI.out.1.lt m1 (by simp[footT]);omega
 obtain⟨s2,o2'⟩:=HO2.out;have o2:=o2'.chg0 ((Chg.refl [] w6).drew);have hS0:Chg [m2] w6 w6.drew:=(Chg.refl [m2] w6).drew;have HC0:∀W,Chg [m2] w6 W→W.cell? ⟨tb,4,none⟩=some (.map (some m2)):=fun W hc=>hc.cell hT4 (by simpa using HI.out.1.d1.2.1)
 have HRF:∀W,Chg [m2] w6 W→W.rangeAt gf 0 (arrF en.fl).toList:=fun W hc=>(hB6.chg hc (by simpa using g2)).rangeQ
 refine wp_region_noPanic ?_;refine wp_region_held_drew (S:=Chg [m2] w6) (by kernel_rfl) hS0 (fun _=>?_);refine zU 0 rfl (by go_simp<;>with_reducible rfl) ?_
 try simp only[zP]
 refine zU 1 rfl (by go_simp<;>with_reducible rfl) ?_
 try simp only[zP]
 refine zU 2 rfl (by go_simp<;>with_reducible rfl) ?_
 try simp only[zP]
 refine zT 3 rfl (zc (by rfl) 195 (.tmp 35) rfl tb 4 rfl (.map (some m2)) _ HC0 Tryz.underlying195 rfl) ?_
 try simp only[zP]
 refine zT 4 rfl (yields_row (by rfl) 46 (.tmp 3) rfl gf 0 rfl (arrF en.fl) _ HRF Tryz.underlying46 rfl infF) ?_
 try simp only[zP]
 refine zR 5 rfl (fun K hK=>?_);refine step_delete_om rfl _ _ _ rfl Tryz.underlying195 rfl o2 en.fl HZ.out.1 rfl ?_;intro w7 o7 hc7;have hcS:Chg [m2] w6 w7:=((Chg.refl [m2] w6).drew).trans hc7;refine zB hK ?_;clear hK K
 try simp only[zP]
 refine wpAnyH_done (by kernel_rfl) ?_ _;refine NoPanic.normal ?_;have HO7:=zH o7;have HC7:=zH hcS;have hB7:=hB6.chg hcS (by simpa using g2);have hT3:=hcS.cell hT3 (by simpa using HI.out.1.d1.2.1);clear o2' o2 hS0 HC0 HRF o7 hc7 hcS HO2;go_upto_region 8 with fail
 have o2:=(HO1.out.chg HC7.out (by simpa using HI.out.1.d1.2.2.2.1)).chg0 ((Chg.refl [] w7).drew);have hS0:Chg [m1] w7 w7.drew:=(Chg.refl [m1] w7).drew;have HC0:∀W,Chg [m1] w7 W→W.cell? ⟨tb,3,none⟩=some (.map (some m1)):=fun W hc=>hc.cell hT3 (by simpa using HI.out.1.d1.1)
 have HRF:∀W,Chg [m1] w7 W→W.rangeAt gf 0 (arrF en.fl).toList:=fun W hc=>(hB7.chg hc (by simpa using g1)).rangeQ
 refine wp_region_noPanic ?_;refine wp_region_held_drew (S:=Chg [m1] w7) (by kernel_rfl) hS0 (fun _=>?_);refine zU 0 rfl (by go_simp<;>with_reducible rfl) ?_
 try simp only[zP]
 refine zU 1 rfl (by go_simp<;>with_reducible rfl) ?_
 try simp only[zP]
 refine zU 2 rfl (by go_simp<;>with_reducible rfl) ?_
 try simp only[zP]
 refine zT 3 rfl (zc (by rfl) 194 (.tmp 40) rfl tb 3 rfl (.map (some m1)) _ HC0 Tryz.underlying194 rfl) ?_
 try simp only[zP]
 refine zT 4 rfl (yields_row (by rfl) 46 (.tmp 3) rfl gf 0 rfl (arrF en.fl) _ HRF Tryz.underlying46 rfl infF) ?_
 try simp only[zP]
 refine zR 5 rfl (fun K hK=>?_);refine step_delete_om rfl _ _ _ rfl Tryz.underlying194 rfl o2 en.fl HZ.out.1 rfl ?_;intro w8 o7 hc7;have hcS:Chg [m1] w7 w8:=((Chg.refl [m1] w7).drew).trans hc7;refine zB hK ?_;clear hK K
 try simp only[zP]
 refine wpAnyH_done (by kernel_rfl) ?_ _;refine NoPanic.normal ?_;have HO8:=zH o7;have HC8:=zH hcS;clear o2 hS0 HC0 HRF o7 hc7 hcS hT3 hT4;go_wp2_with fail;go_ret
 subst hen hno;exact⟨rfl,HI.out.1.dr_fin HX.out.1 HX.out.2 HC4.out HT.out HO6.out HC6.out HO7.out HC7.out HO8.out HC8.out⟩
theorem cdrop_none (h:CtR w tb m1 m2 m3 q nn vs sq its c) {f:Fl} (hf:okF f) (hn:hasC c f=false) :
  Calls Tryz.prog 151 #[.pointer (some ⟨tb,0,none⟩),f.v] w fun e w'=>e=.returned (.bool false)∧Chg [] w w':=by
 have hcA:=(Chg.refl [] w).alloc (.cells (arrF f) 46);have hBf:Blk (w.alloc (.cells (arrF f) 46)) w.heap.size 46 (arrF f):=Blk.new _ _ _;have F0:=cfind_any (h.chg0 hcA) hf;have hg:getC c f=none:=by unfold hasC at hn;simpa using hn
 rw[hn,hg]at F0;have FF:=zH F0;have HC1:=zH hcA;clear h hcA hf hn hg F0;go_enter Tryz.func151,Tryz.ntmps151
 go_upto_region 1 with fail
 generalize w.alloc (.cells (arrF f) 46)=w1 at *;have hBr:=hBf.rangeQ;have hlt:=hBf.lt;generalize w.heap.size=gf at *;clear hBf;go_wp2_with (first
  |(refine wpList_row 46 (.tmp 3) rfl rfl gf 0 rfl (arrF f) _ hBr Tryz.underlying46 rfl infF ?_)
  |fail)
 refine FF.out.mono ?_;rintro e w2 ⟨rfl,hc2⟩;clear FF;have hBl:Blk (w2.alloc (.cells arrN0 108)) w2.heap.size 108 arrN0:=Blk.new _ _ _;have HC2:=zH (hc2.trans ((Chg.refl [] w2).alloc (.cells arrN0 108)));have HZ2:=zH hc2.size;clear hc2;go_wp2_with (first
  |(refine zs rfl 108 _ _ rfl rfl hBl rfl rfl rfl (infN (e:=eN0)) rfl ?_;intro w3 hB3 hc3)
  |fail)
 have HC3:Hid (Chg [] w1 w3):=zH (HC2.out.trans' hc3 (by intro y hy;simp at hy;subst hy;exact .inr HZ2.out));clear hBl HC2 hB3 hc3;go_wp2_with fail;go_ret
 exact⟨rfl,HC1.out.trans HC3.out⟩
end
theorem DrTo.cts {W w w':World} {tb m1 m2 m3 q nn K:Nat} {vs:Value} {sq:Int} {its:List It} {c:TC} {p:En×Int} (h:DrTo w tb m1 m2 m3 q nn vs sq its c p w') (hci:CI K c) (hp:p∈c.l) (hnn:nn≤K) (h0:0≤sq) (h1:sq≤K) (hpm:(its.map fun x=>(x.at_,x.id)).Perm (c.l.map fun p=>(p.1.til,p.2)))
  (hcW:Chg [] W w) (hnew:∀x∈footT tb m1 m2 m3 q vs,W.heap.size≤x):CtTo W w tb K (dropC c p.1.fl) (footT tb m1 m2 m3 q vs) w':=by
 obtain⟨vs',its',hr,hpp,hc,hf⟩:=h;have hf':∀x∈footT tb m1 m2 m3 q vs',x∈footT tb m1 m2 m3 q vs∨w.heap.size≤x:=by
  intro x hx;simp only[footT,List.mem_cons]at hx ⊢;rcases hx with h|h|h|h|h
  ·exact .inl (.inl h)
  ·exact .inl (.inr (.inl h))
  ·exact .inl (.inr (.inr (.inl h)))
  ·exact .inl (.inr (.inr (.inr (.inl h))))
  ·exact (hf x h).imp (fun k=>.inr (.inr (.inr (.inr k)))) id
 refine⟨_,⟨⟨m1,m2,m3,q,nn,vs',sq,its',hr,rfl,hnn,h0,h1,?_⟩,hci.drop _,hcW.trans' hc (fun x hx=>.inr (hnew x hx)),fun x hx=>(hf' x hx).elim (hnew x) (fun k=>Nat.le_trans hcW.size k)⟩,hc,hf'⟩;refine (hpp.map _).trans ?_;have:=hpm.filter (fun q=>!(q.2==p.2));rw[List.filter_map,List.filter_map]at this
 show List.Perm _ ((dropL c.l (flC p)).map _);rw[drop_no hci hp];exact this
theorem cdrop_any {W w:World} {tb K:Nat} {c:TC} {S:List Nat} (h:CtS W w tb K c S) (hK:K≤1000) {f:Fl} (hf:okF f) :
  Calls Tryz.prog 151 #[.pointer (some ⟨tb,0,none⟩),f.v] w fun e w'=>e=.returned (.bool (hasC c f))∧CtTo W w tb K (dropC c f) S w':=by
 obtain⟨⟨m1,m2,m3,q,nn,vs,sq,its,hr,rfl,hnn,h0,h1,hpm⟩,hci,hcW,hnew⟩:=h;cases hg:getC c f with
 |none=>
  have hn:hasC c f=false:=by unfold hasC;rw[hg];rfl
  refine (cdrop_none hr hf hn).mono ?_;rintro e w' ⟨rfl,hc⟩;rw[hn,drop_none hg];exact⟨rfl,CtS.same ⟨⟨m1,m2,m3,q,nn,vs,sq,its,hr,rfl,hnn,h0,h1,hpm⟩,hci,hcW,hnew⟩ (Nat.le_refl _) hc⟩
 |some p=>
  have hn:hasC c f=true:=by unfold hasC;rw[hg];rfl
  obtain⟨hp,rfl⟩:=getC_some hg;have hl:its.length≤2900:=by
   have h2:=hpm.length_eq;have:=hci.len;have:=hci.n1
   simp at h2;omega
  refine (cdrop_some hr hci hK hl hp).mono ?_;rintro e w' ⟨rfl,hd⟩;rw[hn];exact⟨rfl,hd.cts hci hp hnn h0 h1 hpm hcW hnew⟩
end Go.Proofs.YtgbndaiifbogmaaGreat
namespace Go.Proofs.YtgbndaiifbogmaaGreat
open Go.RowKit Go.Maps
theorem joinS_ok {h:Hd} {r:By} (k:okHd {h with len:=r.length}) (hr:okB r):okB (joinS h r):=okB.app (putH_ok k) hr
theorem srhB_ok1 {n m:Int} {L:List Ad} (h:∀a∈L,okA a):okB (srhB n m L):=by
 intro x hx;unfold srhB at hx;rcases List.mem_append.1 hx with hx|hx
 ·have h1:=loB_lt n;have h2:=loB_lt (2*(L.length:Int));have h3:=loB_lt m;have h4:=loB_lt ((L.length:Int)-1);simp only[List.mem_cons,List.not_mem_nil,or_false]at hx;omega
 ·unfold segsB at hx;obtain⟨a,ha,hxa⟩:=List.mem_flatMap.1 hx;exact adB_lt (h a ha) x hxa
@[reducible] def reqT (f:Fl) (seq:Int):Sg:=⟨f.sport,f.dport,seq,0,2,0,0,0⟩
theorem reqT_ok {f:Fl} (hf:PortsF f) {seq:Int} (hq:0≤seq∧seq≤4294967295):okT (reqT f seq)∧canT (reqT f seq) 0=0:=by
 have hn:numsT (reqT f seq)=true:=by
  refine decide_eq_true ?_;exact⟨hf.sp,hf.dp,(by decide:(0:Int)≤0∧(0:Int)≤65535),(by decide:(0:Int)≤0∧(0:Int)≤65535),(by decide:(0:Int)≤0∧(0:Int)≤65535),(by decide:(0:Int)≤2∧(2:Int)≤255)⟩
 refine⟨⟨hn,hq,(by decide:(0:Int)≤0∧(0:Int)≤4294967295)⟩,?_⟩;unfold canT;rw[hn];rfl
theorem via_plain {src dst a:Ad} (hs:okA src) (hd:okA dst) (ha:okA a) {T:Sg} (ht:okT T) (hc:canT T 0=0) :
  ∃b0 x,tcpP src dst T []=.ok b0∧okB b0∧b0.length≤1000000∧insS b0 [a]=.ok x∧okB x∧x.length≤1000000 ∧
   parseS x=.ok ⟨⟨0,0,60,43,64,src,a⟩,some ⟨6,1,0,0,[dst,a]⟩,dst,.tcp ⟨sealT src dst T [],[]⟩,tcpB (sealT src dst T []) []⟩:=by
 have htt:=sealT_num (src:=src) (dst:=dst) (p:=[]) hc ht;have hfine:=seal_fine (p:=[]) hs hd hc (by intro x hx;simp at hx);have hsl:=tcpB_len (sealT src dst T []) []
 have hk:∀(n x p:Int) (d:Ad),okA d→0≤n∧n≤65535→0≤x∧x≤255→0≤p∧p≤255→okHd ⟨0,0,n,x,p,src,d⟩:=fun n x p d h1 h2 h3 h4=>⟨canH_of (by omega) (by omega) h2 h3 h4,hs,h1⟩
 have e1:=tcpP_ok (src:=src) (dst:=dst) (t:=T) (p:=[]) hc (by simp);have hk0:=hk (tcpB (sealT src dst T []) []).length 6 64 dst hd (by rw[hsl];simp) (by omega) (by omega)
 have e2:insS (joinS ⟨0,0,0,6,64,src,dst⟩ (tcpB (sealT src dst T []) [])) [a]=.ok (joinS ⟨0,0,0,43,64,src,a⟩ (srhB 6 1 [dst,a]++tcpB (sealT src dst T []) [])):=
  ins_plain (h:=⟨0,0,0,6,64,src,dst⟩) hk0 rfl (by rw[hsl];simp)
 have okl:∀z∈[dst,a],okA z:=by
  intro z hz;simp at hz;rcases hz with rfl|rfl
  ·exact hd
  ·exact ha
 have hlen:(srhB 6 1 [dst,a]++tcpB (sealT src dst T []) []).length=60:=by rw[List.length_append,srhB_len,hsl];rfl
 have hk1:okHd { (⟨0,0,0,43,64,src,a⟩:Hd) with len:=(srhB 6 1 [dst,a]++tcpB (sealT src dst T []) []).length}:=hk (srhB 6 1 [dst,a]++tcpB (sealT src dst T []) []).length 43 64 a ha (by rw[hlen];simp) (by omega) (by omega)
 have e3:=parse_routed (h:=⟨0,0,0,43,64,src,a⟩) (left:=1) (l:=[dst,a]) (p:=[]) hk1 rfl htt (by simp) (by simp) okl rfl hfine (by simp);have hob:okB (tcpB (sealT src dst T []) []):=tcpB_ok (by intro x hx;simp at hx);refine⟨_,_,e1,joinS_ok hk0 hob,?_,e2,joinS_ok hk1 (okB.app (srhB_ok1 okl) hob),?_,?_⟩
 ·have h1:=joinS_len (h:=⟨0,0,0,6,64,src,dst⟩) (r:=tcpB (sealT src dst T []) []) hk0.can;rw[hsl]at h1;simp only[List.length_nil]at h1;omega
 ·have h1:=joinS_len (h:=⟨0,0,0,43,64,src,a⟩) (r:=srhB 6 1 [dst,a]++tcpB (sealT src dst T []) []) hk1.can;rw[hlen]at h1;omega
 ·refine Eq.trans e3 ?_;have e4:(srhB 6 ((1:Nat):Int) [dst,a]++tcpB (sealT src dst T []) []).length=60:=hlen;rw[e4];rfl
end Go.Proofs.YtgbndaiifbogmaaGreat
namespace Go.Proofs.YtgbndaiifbogmaaGreat
open Go.RowKit Go.Maps
theorem infAd {A:Ad}:(Tryz.prog.info? 24).map (·.size)=some (arrA A).size:=by
 show _=some 16;kernel_rfl
theorem sumC0_lt (l:By):sumC 0 l<4294967296:=by have:=sumC_lt 0 l (by omega);omega
theorem cboth_any {src dst:Ad} (hs:okA src) (hd:okA dst) (next:Int) {w:World} {B:Nat} {v:Value} {l:By} (h:SlY w B v l) (hb:okB l) (hl:l.length≤1000000) :
  Calls Tryz.prog 283 #[src.v,dst.v,.int .i64 next,v] w fun e w'=>e=.returned (.int .i64 (bothC src dst next l:Nat))∧Chg [] w w':=by
 have F1:=zH (fun W:World=>pseudo_any hs hd l.length next W);have F2:=zH (fun (W:World) (hc:Chg [] w W)=>csum1_any (h.chg0 hc) hb hl);have F3:=zH (fun W:World=>cjoin_any (a:=sumC 0 (pseudoB src dst l.length next)) (b:=sumC 0 l) (sumC0_lt _) (sumC0_lt _) W)
 have HE:Hid (bothC src dst next l=joinC (sumC 0 (pseudoB src dst l.length next)) (sumC 0 l)):=zH rfl;obtain⟨A,c,rfl⟩:=h.form;generalize joinC (sumC 0 (pseudoB src dst l.length next)) (sumC 0 l)=j at *;generalize sumC 0 (pseudoB src dst l.length next)=x at *;generalize sumC 0 l=y at *
 generalize l.length=n at *;have hA:=((Chg.refl [] w).alloc (.cells (arrA src) 24)).alloc (.cells (arrA dst) 24);have hB1:Blk ((w.alloc (.cells (arrA src) 24)).alloc (.cells (arrA dst) 24)) w.heap.size 24 (arrA src):=(Blk.new _ _ _).alloc _
 have hB2:Blk ((w.alloc (.cells (arrA src) 24)).alloc (.cells (arrA dst) 24)) (w.heap.size+1) 24 (arrA dst):=Blk.new' (by simp);have HA:=zH hA;clear hs hd h hb hl hA;go_enter Tryz.func283,Tryz.ntmps283
 go_wp2_with (first
  |(refine zl rfl 24 (.tmp 4) rfl hB1 rfl _ Tryz.underlying24 rfl infAd ?_)
  |(refine zl rfl 24 (.tmp 5) rfl hB2 rfl _ Tryz.underlying24 rfl infAd ?_)
  |fail)
 refine (F1.out _).mono ?_;rintro e w3 ⟨rfl,hc3⟩;have hc3':=HA.out.trans hc3;go_wp2_with fail;refine (F2.out _ hc3').mono ?_;rintro e w4 ⟨rfl,hc4⟩;go_wp2_with fail;refine (F3.out _).mono ?_;rintro e w5 ⟨rfl,rfl⟩;go_wp2_with fail;go_ret
 exact⟨by rw[HE.out];rfl,hc3'.trans hc4⟩
theorem bothC_lt (src dst:Ad) (next:Int) (b:By):bothC src dst next b<65536:=joinC_lt _ _
theorem ccheck_any {src dst:Ad} (hs:okA src) (hd:okA dst) (next:Int) {w:World} {B:Nat} {v:Value} {l:By} (h:SlY w B v l) (hb:okB l) (hl:l.length≤1000000) :
  Calls Tryz.prog 236 #[src.v,dst.v,.int .i64 next,v] w fun e w'=>e=.returned (.int .i64 (checkC src dst next l:Nat))∧Chg [] w w':=by
 have F1:=zH (fun (W:World) (hc:Chg [] w W)=>cboth_any hs hd next (h.chg0 hc) hb hl);have F2:=zH (fun W:World=>cnot_any (s:=bothC src dst next l) (by have:=bothC_lt src dst next l;omega) W);have HE:Hid (checkC src dst next l=notC (bothC src dst next l)):=zH rfl
 generalize notC (bothC src dst next l)=j at *;generalize bothC src dst next l=x at *;have hA:=((Chg.refl [] w).alloc (.cells (arrA src) 24)).alloc (.cells (arrA dst) 24);have hB1:Blk ((w.alloc (.cells (arrA src) 24)).alloc (.cells (arrA dst) 24)) w.heap.size 24 (arrA src):=(Blk.new _ _ _).alloc _
 have hB2:Blk ((w.alloc (.cells (arrA src) 24)).alloc (.cells (arrA dst) 24)) (w.heap.size+1) 24 (arrA dst):=Blk.new' (by simp);have HA:=zH hA;clear hs hd h hb hl hA;go_enter Tryz.func236,Tryz.ntmps236
 go_wp2_with (first
  |(refine zl rfl 24 (.tmp 4) rfl hB1 rfl _ Tryz.underlying24 rfl infAd ?_)
  |(refine zl rfl 24 (.tmp 5) rfl hB2 rfl _ Tryz.underlying24 rfl infAd ?_)
  |fail)
 refine (F1.out _ HA.out).mono ?_;rintro e w3 ⟨rfl,hc3⟩;go_wp2_with fail;refine (F2.out _).mono ?_;rintro e w4 ⟨rfl,rfl⟩;go_wp2_with fail;go_ret
 exact⟨by rw[HE.out];rfl,HA.out.trans hc3⟩
theorem cfine_any {src dst:Ad} (hs:okA src) (hd:okA dst) (next:Int) {w:World} {B:Nat} {v:Value} {l:By} (h:SlY w B v l) (hb:okB l) (hl:l.length≤1000000) :
  Calls Tryz.prog 370 #[src.v,dst.v,.int .i64 next,v] w fun e w'=>e=.returned (.bool (fineC src dst next l))∧Chg [] w w':=by
 have F1:=zH (fun (W:World) (hc:Chg [] w W)=>cboth_any hs hd next (h.chg0 hc) hb hl);have HE:Hid (fineC src dst next l=(((bothC src dst next l:Nat):Int)==65535)):=zH (by
  unfold fineC;rw[Bool.eq_iff_iff,beq_iff_eq,beq_iff_eq];omega)
 generalize bothC src dst next l=x at *;have hA:=((Chg.refl [] w).alloc (.cells (arrA src) 24)).alloc (.cells (arrA dst) 24);have hB1:Blk ((w.alloc (.cells (arrA src) 24)).alloc (.cells (arrA dst) 24)) w.heap.size 24 (arrA src):=(Blk.new _ _ _).alloc _
 have hB2:Blk ((w.alloc (.cells (arrA src) 24)).alloc (.cells (arrA dst) 24)) (w.heap.size+1) 24 (arrA dst):=Blk.new' (by simp);have HA:=zH hA;clear hs hd h hb hl hA;go_enter Tryz.func370,Tryz.ntmps370
 go_wp2_with (first
  |(refine zl rfl 24 (.tmp 4) rfl hB1 rfl _ Tryz.underlying24 rfl infAd ?_)
  |(refine zl rfl 24 (.tmp 5) rfl hB2 rfl _ Tryz.underlying24 rfl infAd ?_)
  |fail)
 refine (F1.out _ HA.out).mono ?_;rintro e w3 ⟨rfl,hc3⟩;go_wp2_with fail;go_ret
 exact⟨by rw[HE.out];rfl,HA.out.trans hc3⟩
theorem tfine_any {src dst:Ad} (hs:okA src) (hd:okA dst) {w:World} {B:Nat} {v:Value} {l:By} (h:SlY w B v l) (hb:okB l) (hl:l.length≤1000000) :
  Calls Tryz.prog 367 #[src.v,dst.v,v] w fun e w'=>e=.returned (.bool (fineC src dst 6 l))∧Chg [] w w':=by
 have F1:=zH (fun (W:World) (hc:Chg [] w W)=>cfine_any hs hd 6 (h.chg0 hc) hb hl);generalize fineC src dst 6 l=x at *;have hA:=((Chg.refl [] w).alloc (.cells (arrA src) 24)).alloc (.cells (arrA dst) 24)
 have hB1:Blk ((w.alloc (.cells (arrA src) 24)).alloc (.cells (arrA dst) 24)) w.heap.size 24 (arrA src):=(Blk.new _ _ _).alloc _;have hB2:Blk ((w.alloc (.cells (arrA src) 24)).alloc (.cells (arrA dst) 24)) (w.heap.size+1) 24 (arrA dst):=Blk.new' (by simp);have HA:=zH hA;clear hs hd h hb hl hA
 go_enter Tryz.func367,Tryz.ntmps367
 go_wp2_with (first
  |(refine zl rfl 24 (.tmp 3) rfl hB1 rfl _ Tryz.underlying24 rfl infAd ?_)
  |(refine zl rfl 24 (.tmp 4) rfl hB2 rfl _ Tryz.underlying24 rfl infAd ?_)
  |fail)
 refine (F1.out _ HA.out).mono ?_;rintro e w3 ⟨rfl,hc3⟩;go_wp2_with fail;go_ret
 exact⟨rfl,HA.out.trans hc3⟩
end Go.Proofs.YtgbndaiifbogmaaGreat
