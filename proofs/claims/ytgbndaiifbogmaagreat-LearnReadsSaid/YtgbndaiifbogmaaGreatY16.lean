/-
  Small laws and walks on the way to LearnReads: Rv, Qs. Conditions: each theorem names its own.
-/
import Derived.Test.YtgbndaiifbogmaaGreatY15
import Derived.Recover
import Derived.Test.YtgbndaiifbogmaaGreatY00
import Derived.Deep.RegionHeld3
import Derived.Deep.DeepCutAuto
import Derived.Laws.BitsAllLaws
set_option linter.unusedVariables false
set_option linter.unusedSimpArgs false
set_option maxRecDepth 100000
set_option maxHeartbeats 8000000
namespace Go.Proofs.YtgbndaiifbogmaaGreat
open Go.RowKit Go.Maps
def ordersOf (md:Region.Mode) (ops:Array Oper):Nat→Array Bool→List (List Nat)
 |0,_=>[[]]
 |fuel+1,listed=>match Region.ready md ops listed with
  |[]=>[[]]
  |r::rs=>(r::rs).flatMap fun i=>(ordersOf md ops fuel (listed.setIfInBounds i true)).map (i :: ·)
theorem linearise_in (md:Region.Mode) (ops:Array Oper):∀(fuel t:Nat) (listed:Array Bool),Region.linearise.go md ops fuel t listed []∈ordersOf md ops fuel listed
 |0,_,_=>by simp[Region.linearise.go,ordersOf]
 |fuel+1,t,listed=>by
  simp only[Region.linearise.go,ordersOf];change (match (Region.ready md ops listed)[t%(Region.ready md ops listed).length]? with
   |some i=>Region.linearise.go md ops fuel (t/(Region.ready md ops listed).length) (listed.setIfInBounds i true) [i]
   |none=>[].reverse)∈_
  cases hr:Region.ready md ops listed with
  |nil=>simp
  |cons x xs=>
   have hlt:t%(x::xs).length<(x::xs).length:=Nat.mod_lt _ (by simp);rw[List.getElem?_eq_getElem hlt];simp only[List.mem_flatMap,List.mem_map]
   refine⟨_,List.getElem_mem hlt,Region.linearise.go md ops fuel (t/(x::xs).length) (listed.setIfInBounds (x::xs)[t%(x::xs).length] true) [],linearise_in md ops fuel _ _,?_⟩;rw[linearise_go_acc md ops fuel _ _ [(x::xs)[t%(x::xs).length]]];rfl
theorem wpS_region_draw {P:Program} {id:Nat} {ops:Array Oper} {Q:Exit→Act→List Frame→World→Prop} {a:Act} {cs:List Frame} {w:World} (hm:P.follows .mixedOrders=true)
  (h:∀l∈ordersOf .any ops ops.size (Array.replicate ops.size false),wpOpsS P ops Q l a cs w.drew):(Code.region id ops true).wpS P Q a cs w:=
 fun b k hb hr=>by
  have hs:Region.schedule (P.follows .mixedOrders) ops (w.tape w.drawn (.order b.fn id))∈ordersOf .any ops ops.size (Array.replicate ops.size false):=by
   simp only[Region.schedule,hm,Bool.true_or,if_true];exact linearise_in _ _ _ _ _
  obtain⟨e,a',cs',w',q,r⟩:=wp_opsS _ a cs _ (h _ hs) b k hb hr;exact⟨e,a',cs',w',q,.of_steps (.one step_region_draw) r⟩
@[reducible] def panE (n:Int):Ending:=.panicked [{v:=.iface 39 (.int .i64 n),recovered:=false}]
theorem must_ok (w:World):Calls Tryz.prog 215 #[.int .i64 0] w fun e w'=>e=.returned (.tuple #[])∧w=w':=by
 go_enter Tryz.func215,Tryz.ntmps215
 go_wp2
 go_end0
 exact⟨rfl,rfl⟩
theorem must_no {n:Int} (hn:n≠0) (w:World):Calls Tryz.prog 215 #[.int .i64 n] w fun e w'=>e=panE n∧w=w':=by
 have hI:(n !=0)=true:=by simpa using hn
 clear hn;go_enter Tryz.func215,Tryz.ntmps215
 go_wp2
 exact⟨rfl,rfl,rfl⟩
theorem so_ok (n:Int) (w:World):Calls Tryz.prog 168 #[.bool true,.int .i64 n] w fun e w'=>e=.returned (.tuple #[])∧w=w':=by
 have hnot:∀(x:Bool) (w:World),(Op.unary .not (.bool x)).run Tryz.prog w=.ok (.bool (!x)) w:=fun _ _=>rfl
 go_enter Tryz.func168,Tryz.ntmps168
 go_wp2
 go_end0
 exact⟨rfl,rfl⟩
theorem so_no (n:Int) (w:World):Calls Tryz.prog 168 #[.bool false,.int .i64 n] w fun e w'=>e=panE n∧w=w':=by
 have hnot:∀(x:Bool) (w:World),(Op.unary .not (.bool x)).run Tryz.prog w=.ok (.bool (!x)) w:=fun _ _=>rfl
 go_enter Tryz.func168,Tryz.ntmps168
 go_wp2
 exact⟨rfl,rfl,rfl⟩
theorem caught_none (e:Int) (w:World):Calls Tryz.prog 107 #[.nilIface,.int .i64 e] w fun x w'=>x=.returned (.int .i64 e)∧w=w':=by
 go_enter Tryz.func107,Tryz.ntmps107
 go_wp2
 go_ret
 exact⟨rfl,rfl⟩
theorem run_assert_int {P:Program} {t:TypeId} {k:IntKind} (ht:P.underlying t=some (.int k)) (v:Value) (i:TypeId) (w:World):(Instr.typeAssert (.iface t v) i t true).run P w=.ok (.tuple #[v,.bool true]) w:=by
 simp[Instr.typeAssert,run_underlying ht,Result.andThen]
theorem caught_some (n e:Int) (w:World):Calls Tryz.prog 107 #[.iface 39 (.int .i64 n),.int .i64 e] w fun x w'=>x=.returned (.int .i64 n)∧w=w':=by
 have hta:=fun W=>run_assert_int Tryz.underlying39 (.int .i64 n) 20 W
 go_enter Tryz.func107,Tryz.ntmps107
 go_wp2
 go_ret
 exact⟨rfl,rfl⟩
theorem catchA_idle {w:World} {ge go:Nat} (hce:w.cell? ⟨ge,0,none⟩=some (.int .i64 0)) (hze:w.frozen? ⟨ge,0,none⟩=false) :
  CallsD Tryz.prog 106 #[.pointer (some ⟨ge,0,none⟩),.pointer (some ⟨go,0,none⟩)] .returning w fun e u' w'=>e=.returned (.tuple #[])∧u'=.returning∧w'=(w.setCell ⟨ge,0,none⟩ (.int .i64 0)).drew:=by
 refine callsD_of_wpS Tryz.func106 rfl fun c₀ cs hu=>?_
 apply wpS_seq;refine wpS_region_draw (by kernel_rfl) fun l hl=>?_
 rw[show ordersOf .any _ _ _=[[0,1,2,3],[1,0,2,3]] by kernel_rfl]at hl;simp only[List.mem_cons,List.not_mem_nil,or_false]at hl;have hb:=World.cell?_setCell_same w ⟨ge,0,none⟩ (.int .i64 0) hce;rcases hl with rfl|rfl
 all_goals
  simp[wpOpsS,go_sem,recoverD,hu,Tryz.ntmps106,Exit.thenS,hce];refine (caught_none 0 _).mono ?_;rintro e w1 ⟨rfl,rfl⟩;simp[wpOpsS,go_sem,Exit.thenS,hce,hze];apply wpS_seq;apply wpS_region;simp[wpOpsS,go_sem,Exit.thenS,hb];refine wpS_cond (t:=false) (by simp[Act.eval,Array.replicate]) ?_
  simp only[Bool.false_eq_true,if_false];refine wpS_of_wp (wp_skip ?_);cases c₀;simp_all[bodyPostS,results,Tryz.results106]
theorem catchA_some {w:World} {ge go:Nat} {n:Int} {x y:Value} (hn:n≠0) (hne:ge≠go) (older:List PanicEntry) (hce:w.cell? ⟨ge,0,none⟩=some (.int .i64 0)) (hze:w.frozen? ⟨ge,0,none⟩=false) (hco:w.cell? ⟨go,0,none⟩=some y) (hzo:w.frozen? ⟨go,0,none⟩=false) :
  CallsD Tryz.prog 106 #[.pointer (some ⟨ge,0,none⟩),.pointer (some ⟨go,0,none⟩)] (.panicking ({v:=.iface 39 (.int .i64 n),recovered:=false} :: older)) w fun e u' w'=>e=.returned (.tuple #[])∧u'=.panicking ({v:=.iface 39 (.int .i64 n),recovered:=true} :: older) ∧
   w'=((w.setCell ⟨ge,0,none⟩ (.int .i64 n)).setCell ⟨go,0,none⟩ (.slice none 0 0)).drew:=by
 refine callsD_of_wpS Tryz.func106 rfl fun c₀ cs hu=>?_
 apply wpS_seq;refine wpS_region_draw (by kernel_rfl) fun l hl=>?_
 rw[show ordersOf .any _ _ _=[[0,1,2,3],[1,0,2,3]] by kernel_rfl]at hl;simp only[List.mem_cons,List.not_mem_nil,or_false]at hl;have hb:=World.cell?_setCell_same w ⟨ge,0,none⟩ (.int .i64 n) hce;have hnI:(n !=0)=true:=by simpa using hn
 have hco':(w.setCell ⟨ge,0,none⟩ (.int .i64 n)).cell? ⟨go,0,none⟩=some y:=by simpa[World.cell?_setCell_other,hne]using hco
 have hzo':(w.setCell ⟨ge,0,none⟩ (.int .i64 n)).frozen? ⟨go,0,none⟩=false:=by rw[World.frozen?_setCell];exact hzo
 rcases hl with rfl|rfl
 all_goals
  simp[wpOpsS,go_sem,recoverD,hu,Tryz.ntmps106,Exit.thenS,hce];refine (caught_some n 0 _).mono ?_;rintro e w1 ⟨rfl,rfl⟩;simp[wpOpsS,go_sem,Exit.thenS,hce,hze];apply wpS_seq;apply wpS_region;simp[wpOpsS,go_sem,Exit.thenS,hb];refine wpS_cond (t:=true) (by simp[Act.eval,Array.replicate,hnI]) ?_
  simp only[if_true];apply wpS_region;simp[wpOpsS,go_sem,Exit.thenS,hco',hzo',bodyPostS,results,Tryz.results106]
theorem catchR_idle {w:World} {ge go:Nat} (hce:w.cell? ⟨ge,0,none⟩=some (.int .i64 0)) (hze:w.frozen? ⟨ge,0,none⟩=false) :
  CallsD Tryz.prog 109 #[.pointer (some ⟨ge,0,none⟩),.pointer (some ⟨go,0,none⟩)] .returning w fun e u' w'=>e=.returned (.tuple #[])∧u'=.returning∧w'=(w.setCell ⟨ge,0,none⟩ (.int .i64 0)).drew:=by
 refine callsD_of_wpS Tryz.func109 rfl fun c₀ cs hu=>?_
 apply wpS_seq;refine wpS_region_draw (by kernel_rfl) fun l hl=>?_
 rw[show ordersOf .any _ _ _=[[0,1,2,3],[1,0,2,3]] by kernel_rfl]at hl;simp only[List.mem_cons,List.not_mem_nil,or_false]at hl;have hb:=World.cell?_setCell_same w ⟨ge,0,none⟩ (.int .i64 0) hce;rcases hl with rfl|rfl
 all_goals
  simp[wpOpsS,go_sem,recoverD,hu,Tryz.ntmps109,Exit.thenS,hce];refine (caught_none 0 _).mono ?_;rintro e w1 ⟨rfl,rfl⟩;simp[wpOpsS,go_sem,Exit.thenS,hce,hze];apply wpS_seq;apply wpS_region;simp[wpOpsS,go_sem,Exit.thenS,hb];refine wpS_cond (t:=false) (by simp[Act.eval,Array.replicate]) ?_
  simp only[Bool.false_eq_true,if_false];refine wpS_of_wp (wp_skip ?_);cases c₀;simp_all[bodyPostS,results,Tryz.results109]
theorem catchR_some {w:World} {ge go:Nat} {n:Int} {x y:Value} (hn:n≠0) (hne:ge≠go) (older:List PanicEntry) (hce:w.cell? ⟨ge,0,none⟩=some (.int .i64 0)) (hze:w.frozen? ⟨ge,0,none⟩=false) (hco:w.cell? ⟨go,0,none⟩=some y) (hzo:w.frozen? ⟨go,0,none⟩=false) :
  CallsD Tryz.prog 109 #[.pointer (some ⟨ge,0,none⟩),.pointer (some ⟨go,0,none⟩)] (.panicking ({v:=.iface 39 (.int .i64 n),recovered:=false} :: older)) w fun e u' w'=>e=.returned (.tuple #[])∧u'=.panicking ({v:=.iface 39 (.int .i64 n),recovered:=true} :: older) ∧
   w'=((w.setCell ⟨ge,0,none⟩ (.int .i64 n)).setCell ⟨go,0,none⟩ (.slice none 0 0)).drew:=by
 refine callsD_of_wpS Tryz.func109 rfl fun c₀ cs hu=>?_
 apply wpS_seq;refine wpS_region_draw (by kernel_rfl) fun l hl=>?_
 rw[show ordersOf .any _ _ _=[[0,1,2,3],[1,0,2,3]] by kernel_rfl]at hl;simp only[List.mem_cons,List.not_mem_nil,or_false]at hl;have hb:=World.cell?_setCell_same w ⟨ge,0,none⟩ (.int .i64 n) hce;have hnI:(n !=0)=true:=by simpa using hn
 have hco':(w.setCell ⟨ge,0,none⟩ (.int .i64 n)).cell? ⟨go,0,none⟩=some y:=by simpa[World.cell?_setCell_other,hne]using hco
 have hzo':(w.setCell ⟨ge,0,none⟩ (.int .i64 n)).frozen? ⟨go,0,none⟩=false:=by rw[World.frozen?_setCell];exact hzo
 rcases hl with rfl|rfl
 all_goals
  simp[wpOpsS,go_sem,recoverD,hu,Tryz.ntmps109,Exit.thenS,hce];refine (caught_some n 0 _).mono ?_;rintro e w1 ⟨rfl,rfl⟩;simp[wpOpsS,go_sem,Exit.thenS,hce,hze];apply wpS_seq;apply wpS_region;simp[wpOpsS,go_sem,Exit.thenS,hb];refine wpS_cond (t:=true) (by simp[Act.eval,Array.replicate,hnI]) ?_
  simp only[if_true];apply wpS_region;simp[wpOpsS,go_sem,Exit.thenS,hco',hzo',bodyPostS,results,Tryz.results109]
theorem catchI_idle {w:World} {ge go:Nat} (hce:w.cell? ⟨ge,0,none⟩=some (.int .i64 0)) (hze:w.frozen? ⟨ge,0,none⟩=false) :
  CallsD Tryz.prog 301 #[.pointer (some ⟨ge,0,none⟩),.pointer (some ⟨go,0,none⟩)] .returning w fun e u' w'=>e=.returned (.tuple #[])∧u'=.returning∧w'=(w.setCell ⟨ge,0,none⟩ (.int .i64 0)).drew:=by
 refine callsD_of_wpS Tryz.func301 rfl fun c₀ cs hu=>?_
 apply wpS_seq;refine wpS_region_draw (by kernel_rfl) fun l hl=>?_
 rw[show ordersOf .any _ _ _=[[0,1,2,3],[1,0,2,3]] by kernel_rfl]at hl;simp only[List.mem_cons,List.not_mem_nil,or_false]at hl;have hb:=World.cell?_setCell_same w ⟨ge,0,none⟩ (.int .i64 0) hce;rcases hl with rfl|rfl
 all_goals
  simp[wpOpsS,go_sem,recoverD,hu,Tryz.ntmps301,Exit.thenS,hce];refine (caught_none 0 _).mono ?_;rintro e w1 ⟨rfl,rfl⟩;simp[wpOpsS,go_sem,Exit.thenS,hce,hze];apply wpS_seq;apply wpS_region;simp[wpOpsS,go_sem,Exit.thenS,hb];refine wpS_cond (t:=false) (by simp[Act.eval,Array.replicate]) ?_
  simp only[Bool.false_eq_true,if_false];refine wpS_of_wp (wp_skip ?_);cases c₀;simp_all[bodyPostS,results,Tryz.results301]
theorem catchI_some {w:World} {ge go:Nat} {n:Int} {x y:Value} (hn:n≠0) (hne:ge≠go) (older:List PanicEntry) (hce:w.cell? ⟨ge,0,none⟩=some (.int .i64 0)) (hze:w.frozen? ⟨ge,0,none⟩=false) (hco:w.cell? ⟨go,0,none⟩=some y) (hzo:w.frozen? ⟨go,0,none⟩=false) :
  CallsD Tryz.prog 301 #[.pointer (some ⟨ge,0,none⟩),.pointer (some ⟨go,0,none⟩)] (.panicking ({v:=.iface 39 (.int .i64 n),recovered:=false} :: older)) w fun e u' w'=>e=.returned (.tuple #[])∧u'=.panicking ({v:=.iface 39 (.int .i64 n),recovered:=true} :: older) ∧
   w'=((w.setCell ⟨ge,0,none⟩ (.int .i64 n)).setCell ⟨go,0,none⟩ (.slice none 0 0)).drew:=by
 refine callsD_of_wpS Tryz.func301 rfl fun c₀ cs hu=>?_
 apply wpS_seq;refine wpS_region_draw (by kernel_rfl) fun l hl=>?_
 rw[show ordersOf .any _ _ _=[[0,1,2,3],[1,0,2,3]] by kernel_rfl]at hl;simp only[List.mem_cons,List.not_mem_nil,or_false]at hl;have hb:=World.cell?_setCell_same w ⟨ge,0,none⟩ (.int .i64 n) hce;have hnI:(n !=0)=true:=by simpa using hn
 have hco':(w.setCell ⟨ge,0,none⟩ (.int .i64 n)).cell? ⟨go,0,none⟩=some y:=by simpa[World.cell?_setCell_other,hne]using hco
 have hzo':(w.setCell ⟨ge,0,none⟩ (.int .i64 n)).frozen? ⟨go,0,none⟩=false:=by rw[World.frozen?_setCell];exact hzo
 rcases hl with rfl|rfl
 all_goals
  simp[wpOpsS,go_sem,recoverD,hu,Tryz.ntmps301,Exit.thenS,hce];refine (caught_some n 0 _).mono ?_;rintro e w1 ⟨rfl,rfl⟩;simp[wpOpsS,go_sem,Exit.thenS,hce,hze];apply wpS_seq;apply wpS_region;simp[wpOpsS,go_sem,Exit.thenS,hb];refine wpS_cond (t:=true) (by simp[Act.eval,Array.replicate,hnI]) ?_
  simp only[if_true];apply wpS_region;simp[wpOpsS,go_sem,Exit.thenS,hco',hzo',bodyPostS,results,Tryz.results301]
end Go.Proofs.YtgbndaiifbogmaaGreat
namespace Go.Proofs.YtgbndaiifbogmaaGreat.Vs
open Go.RowKit Go.Maps
theorem is_oct (A:Option Addr) (n c at_ m:Nat) (w:World) (h:m+at_≤n) (hn:n≤100) :
  Calls Tryz.prog 162 #[.slice A n c,.int .i64 at_,.int .i64 m] w fun e w'=>e=.returned (.bool true)∧w=w':=by
 have h1:(0:Int)≤(at_:Int):=by omega
 have h2:(0:Int)≤(m:Int):=by omega
 have h3:(at_:Int)≤(n:Int):=by omega
 have h4:(m:Int)≤(n:Int)-(at_:Int):=by omega
 have hw:IntKind.i64.wrap ((n:Int)-(at_:Int))=(n:Int)-(at_:Int):=by rw[IntKind.wrap_i64];omega
 clear h hn;go_enter Tryz.func162,Tryz.ntmps162
 go_wp2
 go_ret
 exact⟨rfl,rfl⟩
theorem piece16 (g:Nat) (w:World) :
  Calls Tryz.prog 163 #[.slice (some ⟨g,0,none⟩) 16 16,.int .i64 8,.int .i64 2] w fun e w'=>e=.returned (.slice (some ⟨g,8,none⟩) 2 2)∧w=w':=by
 go_enter Tryz.func163,Tryz.ntmps163
 go_wp2
 go_ret
 exact⟨rfl,rfl⟩
theorem piece32 (g:Nat) (w:World) :
  Calls Tryz.prog 163 #[.slice (some ⟨g,0,none⟩) 16 16,.int .i64 12,.int .i64 4] w fun e w'=>e=.returned (.slice (some ⟨g,12,none⟩) 4 4)∧w=w':=by
 go_enter Tryz.func163,Tryz.ntmps163
 go_wp2
 go_ret
 exact⟨rfl,rfl⟩
theorem or_i64 {x y:Int} (hx0:0≤x) (hx1:x≤255) (hy0:0≤y) (hy1:y≤255):bits .or .i64 (x*256) y=x*256+y:=by
 obtain⟨n0,rfl⟩:=Int.eq_ofNat_of_zero_le hx0;obtain⟨n1,rfl⟩:=Int.eq_ofNat_of_zero_le hy0;have e:((n0:Int)*256)=((n0*256:Nat):Int):=by omega
 rw[e];have h1:(BitVec.ofInt 64 ((n0*256:Nat):Int)).toNat=n0*256:=by
  rw[BitVec.ofInt_natCast,BitVec.toNat_ofNat];exact Nat.mod_eq_of_lt (by omega)
 have h2:(BitVec.ofInt 64 (n1:Int)).toNat=n1:=by
  rw[BitVec.ofInt_natCast,BitVec.toNat_ofNat];exact Nat.mod_eq_of_lt (by omega)
 show IntKind.i64.wrap ((BitVec.ofInt 64 ((n0*256:Nat):Int) ||| BitVec.ofInt 64 (n1:Int)).toNat:Int)=_;rw[BitVec.toNat_or,h1,h2,nat_join 8 (n0*256) n1 (by omega) (by omega),IntKind.wrap_i64];omega
theorem or_u32 {x y:Int} (hx0:0≤x) (hx1:x<16777216) (hy0:0≤y) (hy1:y≤255):bits .or .u32 (x*256) y=x*256+y:=by
 obtain⟨n0,rfl⟩:=Int.eq_ofNat_of_zero_le hx0;obtain⟨n1,rfl⟩:=Int.eq_ofNat_of_zero_le hy0;have e:((n0:Int)*256)=((n0*256:Nat):Int):=by omega
 rw[e,u32_or_nat (n0*256) n1 (by omega) (by omega),nat_join 8 (n0*256) n1 (by omega) (by omega)];omega
theorem u16_at {g:Nat} {x y:Int} {w:World} (hx:w.cell? ⟨g,8,none⟩=some (.int .u8 x)) (hy:w.cell? ⟨g,9,none⟩=some (.int .u8 y)) (hx0:0≤x) (hx1:x≤255) (hy0:0≤y) (hy1:y≤255) :
  Calls Tryz.prog 103 #[.slice (some ⟨g,0,none⟩) 16 16,.int .i64 8] w fun e w'=>e=.returned (.tuple #[.int .i64 (x*256+y),.bool true])∧∃q,w'=w.drewN q:=by
 have F1:=zH (is_oct (some ⟨g,0,none⟩) 16 16 8 2 w (by omega) (by omega));have F2:=zH (piece16 g w);have hb:=or_i64 hx0 hx1 hy0 hy1;go_enter Tryz.func103,Tryz.ntmps103
 go_wp2_with fail;refine F1.out.mono ?_;rintro e w1 ⟨rfl,rfl⟩;go_wp2_with fail;refine F2.out.mono ?_;rintro e w1 ⟨rfl,rfl⟩;go_wp2_with fail;go_quiet (fail)
 go_wp2_with fail;go_ret2
 exact⟨rfl,_,rfl⟩
def val32 (l:List Int):Int:=l.foldl (fun n c=>n*256+c) 0
theorem u32_at {g:Nat} {l:List Int} {w:World} (h4:l.length=4) (hc:∀i,i<4→w.cell? ⟨g,12+i,none⟩=some (.int .u8 (l[i]?.getD 0))) (hl:∀x∈l,0≤x∧x≤255) :
  Calls Tryz.prog 104 #[.slice (some ⟨g,0,none⟩) 16 16,.int .i64 12] w fun e w'=>e=.returned (.tuple #[.int .u32 (val32 l),.bool true])∧w=w':=by
 have F1:=zH (is_oct (some ⟨g,0,none⟩) 16 16 12 4 w (by omega) (by omega));have F2:=zH (piece32 g w);have HV:Hid (∀k,k<4→0≤val32 (l.take k)∧val32 (l.take k)<16777216∧val32 (l.take (k+1))=val32 (l.take k)*256+l[k]?.getD 0∧0≤l[k]?.getD 0∧l[k]?.getD 0≤255):=zH (by
  match l,h4 with
  |[x0,x1,x2,x3],_=>
   have b0:=hl x0 (by simp);have b1:=hl x1 (by simp);have b2:=hl x2 (by simp);have b3:=hl x3 (by simp)
   intro k hk;have:k=0∨k=1∨k=2∨k=3:=by omega
   rcases this with rfl|rfl|rfl|rfl<;>simp[val32]<;>omega)
 have HC:=zH hc;have H4:Hid (val32 (l.take 4)=val32 l):=zH (by rw[←h4,List.take_length]);clear hl hc h4;go_enter Tryz.func104,Tryz.ntmps104
 go_wp2_with fail;refine F1.out.mono ?_;rintro e w1 ⟨rfl,rfl⟩;go_wp2_with fail;refine F2.out.mono ?_;rintro e w1 ⟨rfl,rfl⟩;clear F1 F2;go_wp2_with fail;go_loop [6,8,17] (fun nv cv iv=>∃k:Nat,k≤4∧iv=.int .i64 k∧nv=.int .u32 (val32 (l.take k))) (fun _ _ iv=>4-(intOf iv).toNat)
 case atStart=>exact⟨0,by omega,rfl,by simp[val32]⟩
 case round=>
  obtain⟨k,hk,rfl,rfl⟩:=hrel;by_cases hlt:k<4
  ·obtain⟨v0,v1,v2,c0,c1⟩:=HV.out k hlt;have hck:=HC.out k hlt;have V2:=zH v2;clear v2 HV HC H4;generalize val32 (l.take k)=n at *;generalize l[k]?.getD 0=c at *;have hw1:IntKind.u32.wrap (n*256)=n*256:=by rw[IntKind.wrap_u32'];omega
   have hb:=or_u32 v0 v1 c0 c1;have hkI:(k:Int)<4:=by omega
   go_wp2_with fail;go_round
   case rel=>exact⟨k+1,by omega,by go_num,by rw[V2.out]⟩
   case measure=>simp[intOf];omega
  ·obtain rfl:k=4:=by omega
   have h4:=H4.out;go_wp2_with fail;go_ret2
   exact⟨rfl,rfl⟩
theorem elB:El Tryz.prog 22 5 (.int .u8 0) 1 1:=⟨Tryz.underlying22,by kernel_rfl,rfl,by omega⟩
def Row8 (w:World) (B:Nat) (v:Value) (l:List Int):Prop:=w.ownsRow B 5 1 v l.length (l.map (Value.int .u8))
theorem lit8 {w:World} (l:List Int) (hl:l.length≤600):Sl (w.alloc (.cells (l.map (Value.int .u8)).toArray 5)) 0 1 (.slice (some ⟨w.heap.size,0,none⟩) l.length l.length) l.length (l.map (Value.int .u8)):=by
 have:=own_lit (base:=0) w 5 1 l.length (l.map (Value.int .u8)).toArray (Nat.zero_le _) (by simp only[maxLen];omega) (by simp);exact Sl.of_own (by simpa using this)
theorem two_any {x y:Int} (w:World) (hx0:0≤x) (hx1:x≤255) (hy0:0≤y) (hy1:y≤255) :
  Calls Tryz.prog 213 #[.int .i64 (x*256+y)] w fun e w'=>e=.returned (.agg #[.int .u8 x,.int .u8 y])∧Chg [] w w':=by
 have h1:(x*256+y)/256=x:=by omega
 have h2:IntKind.u8.wrap x=x:=by rw[IntKind.wrap_u8'];omega
 have h3:IntKind.u8.wrap (x*256+y)=y:=by rw[IntKind.wrap_u8'];omega
 have hb:Blk (w.alloc (.cells #[.int .u8 0,.int .u8 0] 312)) w.heap.size 312 #[.int .u8 0,.int .u8 0]:=Blk.new _ _ _;have hA:=(Chg.refl [] w).alloc (.cells #[.int .u8 0,.int .u8 0] 312);clear hx0 hx1 hy0 hy1;go_enter Tryz.func213,Tryz.ntmps213
 go_wp2_with (first|(refine zs rfl 312 _ _ rfl rfl hb rfl rfl rfl (by kernel_rfl) (by decide) ?_;intro w5 hb5 hc5)|fail)
 exact bodyPost_ret (results_blk rfl rfl (Blk.new _ _ _) _ Tryz.underlying312 rfl (by kernel_rfl)) rfl ⟨rfl,(Chg.refl _ _).alloc _⟩
theorem put16_any {w:World} {B:Nat} {v:Value} {l:List Int} {x y:Int} (h:Row8 w B v l) (hl:l.length≤100) (hB:B≤w.heap.size) (hx0:0≤x) (hx1:x≤255) (hy0:0≤y) (hy1:y≤255) :
  Calls Tryz.prog 165 #[v,.int .i64 (x*256+y)] w fun e w'=>∃v',e=.returned v'∧Row8 w' B v' (l ++ [x,y])∧Chg v.ownBlock.toList w w':=by
 have F1:=zH (two_any w hx0 hx1 hy0 hy1);have HR:=zH h;generalize hn:x*256+y=n at *;clear h hx0 hx1 hy0 hy1 hn;go_enter Tryz.func165,Tryz.ntmps165
 go_wp2_with fail;refine F1.out.mono ?_;rintro e w1 ⟨rfl,hc1⟩;clear F1;have hr2:Row8 ((w1.alloc (.cells #[.int .u8 x,.int .u8 y] 312)).alloc (.cells #[.int .u8 x,.int .u8 y] 5)) B v l:=own_chg HR.out ((hc1.alloc _).alloc _) (by simp)
 have hlit:Sl ((w1.alloc (.cells #[.int .u8 x,.int .u8 y] 312)).alloc (.cells #[.int .u8 x,.int .u8 y] 5)) 0 1 (.slice (some ⟨w1.heap.size+1,0,none⟩) 2 2) 2 [.int .u8 x,.int .u8 y]:=by simpa using lit8 (w:=w1.alloc (.cells #[.int .u8 x,.int .u8 y] 312)) [x,y] (by simp)
 have hws:=hc1.size;generalize hnl:l.length=nl at *;unfold Row8 at hr2;rw[hnl]at hr2;clear HR
 go_wp2_with (first|(at_builtin;refine wpList_app elB rfl (.tmp 8) (.tmp 13) rfl B rfl hr2 rfl hlit (by intro u hu;simp at hu;rcases hu with rfl|rfl<;>rfl) (by unfold maxLen;simp;omega) (by simp;omega) (by simp;omega) ?_;intro v5 w5 hown5 hc5 hb5)|fail)
 go_ret
 refine⟨_,rfl,?_,(((hc1.alloc _).alloc _).more (T:=v.ownBlock.toList) (by simp)).trans hc5⟩;unfold Row8;rw[List.length_append,hnl,List.map_append];simpa using hown5
theorem put32_any {w:World} {B:Nat} {v:Value} {l:List Int} {x y z u:Int} (h:Row8 w B v l) (hl:l.length≤100) (hB:B≤w.heap.size) (hx0:0≤x) (hx1:x≤255) (hy0:0≤y) (hy1:y≤255) (hz0:0≤z) (hz1:z≤255) (hu0:0≤u) (hu1:u≤255) :
  Calls Tryz.prog 166 #[v,.int .u32 (((x*256+y)*256+z)*256+u)] w fun e w'=>∃v',e=.returned v'∧Row8 w' B v' (l ++ [x,y,z,u])∧Chg v.ownBlock.toList w w':=by
 have h1:(((x*256+y)*256+z)*256+u)/16777216=x:=by omega
 have h2:IntKind.u8.wrap ((((x*256+y)*256+z)*256+u)/65536)=y:=by rw[IntKind.wrap_u8'];omega
 have h3:IntKind.u8.wrap ((((x*256+y)*256+z)*256+u)/256)=z:=by rw[IntKind.wrap_u8'];omega
 have h4:IntKind.u8.wrap (((x*256+y)*256+z)*256+u)=u:=by rw[IntKind.wrap_u8'];omega
 have h5:IntKind.u8.wrap x=x:=by rw[IntKind.wrap_u8'];omega
 clear hx0 hx1 hy0 hy1 hz0 hz1 hu0 hu1;generalize ((x*256+y)*256+z)*256+u=n at *;have hr2:Row8 (w.alloc (.cells #[.int .u8 x,.int .u8 y,.int .u8 z,.int .u8 u] 5)) B v l:=own_chg (S:=[]) h ((Chg.refl _ _).alloc _) (by simp)
 have hlit:Sl (w.alloc (.cells #[.int .u8 x,.int .u8 y,.int .u8 z,.int .u8 u] 5)) 0 1 (.slice (some ⟨w.heap.size,0,none⟩) 4 4) 4 [.int .u8 x,.int .u8 y,.int .u8 z,.int .u8 u]:=lit8 (w:=w) [x,y,z,u] (by simp);generalize hnl:l.length=nl at *;unfold Row8 at hr2;rw[hnl]at hr2;clear h
 go_enter Tryz.func166,Tryz.ntmps166
 go_wp2_with (first|(at_builtin;refine wpList_app elB rfl (.tmp 5) (.tmp 17) rfl B rfl hr2 rfl hlit (by intro u hu;simp at hu;rcases hu with rfl|rfl|rfl|rfl<;>rfl) (by unfold maxLen;simp;omega) (by simp;omega) (by simp;omega) ?_;intro v5 w5 hown5 hc5 hb5)|fail)
 go_ret
 refine⟨_,rfl,?_,(((Chg.refl [] w).alloc _).more (T:=v.ownBlock.toList) (by simp)).trans hc5⟩;unfold Row8;rw[List.length_append,hnl,List.map_append];simpa using hown5
theorem block_any (w:World):Calls Tryz.prog 164 #[] w fun e w'=>e=.returned (.agg #[.int .i64 64876,.int .i64 98,.int .i64 0,.int .i64 0])∧Chg [] w w':=by
 go_enter Tryz.func164,Tryz.ntmps164
 go_wp2
 exact bodyPost_ret (results_blk rfl rfl (Blk.new _ _ _) _ Tryz.underlying261 rfl (by kernel_rfl)) rfl ⟨rfl,(Chg.refl _ _).alloc _⟩
def RB (w wk:World) (v:Value) (l:List Int):Prop:=Row8 wk w.heap.size v l∧Chg [] w wk
theorem RB.nil (w:World) {wk:World} (h:Chg [] w wk):RB w wk (.slice none 0 0) []:=⟨World.ownsRow_nil ..,h⟩
theorem RB.to {w wk w':World} {v:Value} {l:List Int} (h:RB w wk v l) (hc:Chg [] wk w'):RB w w' v l:=⟨own_chg h.1 hc (by simp),h.2.trans hc⟩
theorem RB.alloc {w wk:World} {v:Value} {l:List Int} (h:RB w wk v l) (o:Obj):RB w (wk.alloc o) v l:=h.to ((Chg.refl _ _).alloc o)
theorem RB.drew {w wk:World} {v:Value} {l:List Int} (h:RB w wk v l):RB w wk.drew v l:=h.to ((Chg.refl _ _).drew)
theorem RB.next {w wk w':World} {v v':Value} {l l':List Int} (h:RB w wk v l) (hr:Row8 w' w.heap.size v' l') (hc:Chg v.ownBlock.toList wk w'):RB w w' v' l':=
 ⟨hr,h.2.trans' hc fun x hx=>.inr (own_lt h.1 x hx).1⟩
theorem put16_n {w wk:World} {v:Value} {l:List Int} {n:Int} (x y:Int) (hn:n=x*256+y) (h:RB w wk v l) (hl:l.length≤100) (hx0:0≤x) (hx1:x≤255) (hy0:0≤y) (hy1:y≤255) :
  Calls Tryz.prog 165 #[v,.int .i64 n] wk fun e w'=>∃v',e=.returned v'∧RB w w' v' (l ++ [x,y])∧Chg v.ownBlock.toList wk w':=by
 subst hn;refine (put16_any h.1 hl h.2.size hx0 hx1 hy0 hy1).mono ?_;rintro e w' ⟨v',rfl,hr,hc⟩;exact⟨v',rfl,h.next hr hc,hc⟩
theorem put32_n {w wk:World} {v:Value} {l:List Int} {n:Int} (x y z u:Int) (hn:n=((x*256+y)*256+z)*256+u) (h:RB w wk v l) (hl:l.length≤100) (hx0:0≤x) (hx1:x≤255) (hy0:0≤y) (hy1:y≤255) (hz0:0≤z) (hz1:z≤255) (hu0:0≤u) (hu1:u≤255) :
  Calls Tryz.prog 166 #[v,.int .u32 n] wk fun e w'=>∃v',e=.returned v'∧RB w w' v' (l ++ [x,y,z,u])∧Chg v.ownBlock.toList wk w':=by
 subst hn;refine (put32_any h.1 hl h.2.size hx0 hx1 hy0 hy1 hz0 hz1 hu0 hu1).mono ?_;rintro e w' ⟨v',rfl,hr,hc⟩;exact⟨v',rfl,h.next hr hc,hc⟩
@[reducible] def mkA (p q d x y z u:Int):Ad:=⟨253,108,0,98,0,0,0,0,p,q,d,0,x,y,z,u⟩
@[reducible] def adZ:Ad:=⟨0,0,0,0,0,0,0,0,0,0,0,0,0,0,0,0⟩
theorem one_arrA (A:Ad):(arrA A).toList.all (·.oneCell')=true:=rfl
theorem infA {A:Ad}:(Tryz.prog.info? 24).map (·.size)=some (arrA A).size:=by
 show _=some 16;kernel_rfl
theorem make_any {node d arg p q x y z u:Int} (w:World) (hn:node=p*256+q) (ha:arg=((x*256+y)*256+z)*256+u) (hp0:0≤p) (hp1:p≤255) (hq0:0≤q) (hq1:q≤255) (hd0:0≤d) (hd1:d≤255)
  (hx0:0≤x) (hx1:x≤255) (hy0:0≤y) (hy1:y≤255) (hz0:0≤z) (hz1:z≤255) (hu0:0≤u) (hu1:u≤255) :
  Calls Tryz.prog 105 #[.agg #[.int .i64 node,.int .i64 d,.int .u32 arg]] w fun e w'=>e=.returned (.tuple #[(mkA p q d x y z u).v,.int .i64 0])∧Chg [] w w':=by
 have n0:0≤node:=by omega
 have n1:node≤65535:=by omega
 have hwd:IntKind.u8.wrap d=d:=by rw[IntKind.wrap_u8'];omega
 have FB:=zH (fun W=>block_any W);have FN:=zH (fun (W wk:World) (v:Value) (h:RB W wk v ([] ++ [253,108] ++ [0,98] ++ [0,0] ++ [0,0]))=>put16_n p q hn h (by simp) hp0 hp1 hq0 hq1)
 have FA:=zH (fun (W wk:World) (v:Value) (h:RB W wk v (([] ++ [253,108] ++ [0,98] ++ [0,0] ++ [0,0] ++ [p,q]) ++ [d,0]))=>put32_n x y z u ha h (by simp) hx0 hx1 hy0 hy1 hz0 hz1 hu0 hu1)
 have i0:∀w,(Instr.index 261 (.agg #[.int .i64 64876,.int .i64 98,.int .i64 0,.int .i64 0]) (.int .i64 0)).run Tryz.prog w=.ok (.int .i64 64876) w:=fun _=>by kernel_rfl
 have i1:∀w,(Instr.index 261 (.agg #[.int .i64 64876,.int .i64 98,.int .i64 0,.int .i64 0]) (.int .i64 1)).run Tryz.prog w=.ok (.int .i64 98) w:=fun _=>by kernel_rfl
 have i2:∀w,(Instr.index 261 (.agg #[.int .i64 64876,.int .i64 98,.int .i64 0,.int .i64 0]) (.int .i64 2)).run Tryz.prog w=.ok (.int .i64 0) w:=fun _=>by kernel_rfl
 have i3:∀w,(Instr.index 261 (.agg #[.int .i64 64876,.int .i64 98,.int .i64 0,.int .i64 0]) (.int .i64 3)).run Tryz.prog w=.ok (.int .i64 0) w:=fun _=>by kernel_rfl
 clear hn ha hp0 hp1 hq0 hq1 hx0 hx1 hy0 hy1 hz0 hz1 hu0 hu1;go_enter Tryz.func105,Tryz.ntmps105
 go_wp2_with fail;refine (FB.out _).mono ?_;rintro e w1 ⟨rfl,hc1⟩;go_wp2_with fail;have hr1:=RB.nil w1 (Chg.refl [] w1);have hW1:=zH (((Chg.refl [] w).alloc (.cells #[.int .i64 node,.int .i64 d,.int .u32 arg] 63)).alloc (.cells (arrA adZ) 24) |>.trans hc1)
 have hS1:Blk w1 w.heap.size 63 #[.int .i64 node,.int .i64 d,.int .u32 arg]:=((Blk.new w 63 _).alloc (.cells (arrA adZ) 24)).chg hc1 (by simp);have hR1:Blk w1 (w.heap.size+1) 24 (arrA adZ):=Blk.chg (Blk.new' (by simp)) hc1 (by simp);clear hc1 FB;refine wp_loop_rounds 5 ?_;rw[rounds_succ]
 go_wp2_with fail;refine (put16_n 253 108 (by omega) hr1 (by simp) (by omega) (by omega) (by omega) (by omega)).mono ?_;rintro e w2 ⟨v2,rfl,hr2,hc2⟩;clear hc2 hr1;go_wp2_with fail;rw[rounds_succ];go_wp2_with fail
 refine (put16_n 0 98 (by omega) hr2 (by simp) (by omega) (by omega) (by omega) (by omega)).mono ?_;rintro e w3 ⟨v3,rfl,hr3,hc3⟩;clear hc3 hr2;go_wp2_with fail;rw[rounds_succ];go_wp2_with fail;refine (put16_n 0 0 (by omega) hr3 (by simp) (by omega) (by omega) (by omega) (by omega)).mono ?_
 rintro e w4 ⟨v4,rfl,hr4,hc4⟩;clear hc4 hr3;go_wp2_with fail;rw[rounds_succ];go_wp2_with fail;refine (put16_n 0 0 (by omega) hr4 (by simp) (by omega) (by omega) (by omega) (by omega)).mono ?_;rintro e w5 ⟨v5,rfl,hr5,hc5⟩;clear hc5 hr4;go_wp2_with fail;rw[rounds_succ];go_wp2_with fail
 clear i0 i1 i2 i3;have hS5:=hS1.chg hr5.2 (by simp);have k0:=hS5.cell 0;have k1:=hS5.cell 1;simp only[List.getElem?_toArray,List.getElem?_cons_succ,List.getElem?_cons_zero]at k0 k1;have HLit:=zH (fun W=>lit8 (w:=W) [d,0] (by simp));have hA5:=hr5.drew
 have hB5:=(hr5.alloc (.cells #[.int .u8 d,.int .u8 0] 5)).drew;have hlb:Hid (∀W,Chg v5.ownBlock.toList (w5.alloc (.cells #[.int .u8 d,.int .u8 0] 5)).drew W→Sl W 0 1 (.slice (some ⟨w5.heap.size,0,none⟩) 2 2) 2 [.int .u8 d,.int .u8 0]):=zH fun W hc=>by
  have hb:Blk W w5.heap.size 5 #[.int .u8 d,.int .u8 0]:=Blk.chg (Blk.new w5 _ _).drew hc (fun hm=>by have:=own_lt hA5.1 _ hm;simp at this);exact⟨by simp,_,2,rfl,Nat.le_refl _,fun _=>⟨w5.heap.size,0,rfl,Nat.zero_le _,fun j u hu=>by rw[Nat.zero_add,hb.cell];simpa using hu⟩⟩
 have hS6:Hid (∀W,Chg [] w1 W→W.cell? ⟨w.heap.size,0,none⟩=some (.int .i64 node)∧W.cell? ⟨w.heap.size,1,none⟩=some (.int .i64 d)):=zH fun W hc=>⟨(hS1.chg hc (by simp)).cell 0,(hS1.chg hc (by simp)).cell 1⟩
 have c5:=hA5.2;have c5':=hr5.2;clear hS5 hr5
 go_region_held3 (fun w'=>w'.cell? ⟨w.heap.size,0,none⟩=some (.int .i64 node)∧w'.cell? ⟨w.heap.size,1,none⟩=some (.int .i64 d)) ((exact hS6.out _ (by repeat (first|with_reducible assumption|with_reducible refine Chg.alloc ?_ _|with_reducible refine Chg.drew ?_)))) (first
  |(go_at_call 165;(with_reducible refine (FN.out _ _ _ hA5).mono ?_);rintro e w6 ⟨v6,rfl,hr6,hc6⟩;have c6:=hr6.2)
  |(go_at_call 165;(with_reducible refine (FN.out _ _ _ hB5).mono ?_);rintro e w6 ⟨v6,rfl,hr6,hc6⟩;have c6:=hr6.2;have hl6:=hlb.out _ hc6)
  |(refine step_app elB rfl (.tmp 38) (.tmp 42) rfl w1.heap.size rfl hr6.1 rfl hl6 (by intro u hu;simp at hu;rcases hu with rfl|rfl<;>rfl) (by unfold maxLen;simp) (by simp) hr6.2.size ?_;intro v7 w7 hown7 hc7 hb7;have hr7:=(hr6.next (l':=[] ++ [253,108] ++ [0,98] ++ [0,0] ++ [0,0] ++ [p,q] ++ [d,0]) (by unfold Row8;rw[List.map_append];exact hown7) hc7);have c7:=hr7.2)
  |(refine step_app elB rfl (.tmp 38) (.tmp 42) rfl w1.heap.size rfl (hr6.alloc _).1 rfl (HLit.out _) (by intro u hu;simp at hu;rcases hu with rfl|rfl<;>rfl) (by unfold maxLen;simp) (by simp) (hr6.alloc _).2.size ?_;intro v7 w7 hown7 hc7 hb7;have hr7:=((hr6.alloc _).next (l':=[] ++ [253,108] ++ [0,98] ++ [0,0] ++ [0,0] ++ [p,q] ++ [d,0]) (by unfold Row8;rw[List.map_append];exact hown7) hc7);have c7:=hr7.2))
 all_goals
  clear hA5 hB5 hlb hS6 c5 c5' k0 k1 HLit c6 c7 FN;have k2:=(hS1.chg hr7.2 (by simp)).cell 2;simp only[List.getElem?_toArray,List.getElem?_cons_succ,List.getElem?_cons_zero]at k2;go_wp2_with fail;refine (FA.out _ _ _ hr7).mono ?_;rintro e w8 ⟨v8,rfl,hr8,hc8⟩;clear FA hc8 hr7
  have hn8:Blk (w8.alloc (.cells (arrA adZ) 24)) w8.heap.size 24 (arrA adZ):=Blk.new _ _ _;have hs8:Sl (w8.alloc (.cells (arrA adZ) 24)) w1.heap.size 1 v8 16 (encA (mkA p q d x y z u)):=Sl.of_own (hr8.alloc _).1;have hR8:=hR1.chg (hr8.alloc (.cells (arrA adZ) 24)).2 (by simp)
  have HC8:=zH (hW1.out.trans (hr8.alloc (.cells (arrA adZ) 24)).2);obtain⟨A8,c8,rfl⟩:=Sl.form hs8;have hrl:w.heap.size+1<w8.heap.size:=by have:=hR8.lt;have h2:=hr8.2.size;have h3:=hR1.lt;omega
  have HE:Hid (encA (mkA p q d x y z u)=(arrA (mkA p q d x y z u)).toList):=zH rfl;have hone:∀u'∈encA (mkA p q d x y z u),u'.oneCell'=true:=by intro u' hu';simp[encA,Ad.l]at hu';rcases hu' with rfl|rfl|rfl|rfl|rfl|rfl|rfl|rfl|rfl|rfl|rfl|rfl|rfl<;>rfl
  have HO:=zH hone;clear hone hr8;go_wp2_with (first
   |(refine wpList_copy_blk rfl (.tmp 48) (.tmp 49) 22 22 rfl 5 Tryz.underlying22 (by kernel_rfl) hn8 rfl rfl hs8 (by omega) HO.out (by simp) ?_;intro w9 hb9 hc9;rw[splice_all (by rw[encA_len];rfl)]at hb9;have hb9':Blk w9 w8.heap.size 24 (arrA (mkA p q d x y z u)):=hb9;have hR9:=hR8.chg hc9 (by simp;omega))
   |(refine zl rfl 24 (.tmp 7) rfl hb9' rfl _ Tryz.underlying24 rfl infA ?_)
   |(refine zs rfl 24 (.tmp 2) (.tmp 51) rfl rfl hR9 rfl rfl rfl infA (one_arrA _) ?_;intro w10 hR10 hc10)
   |fail)
  exact bodyPost_ret (zr rfl rfl hR10 _ Tryz.underlying24 rfl infA) rfl ⟨rfl,HC8.out.trans' ((hc9.more (T:=[w8.heap.size,w.heap.size+1]) (by simp)).trans (hc10.more (by simp))) (by intro x hx;simp at hx;rcases hx with rfl|rfl<;>(right;omega))⟩
@[reducible] def likeA (A:Ad):Ad:=mkA A.a8 A.a9 A.a10 A.a12 A.a13 A.a14 A.a15
def ownA (A:Ad):Bool:=decide (likeA A=A)
def argA (A:Ad):Int:=val32 [A.a12,A.a13,A.a14,A.a15]
@[reducible] def sidV (n d r:Int):Value:=.agg #[.int .i64 n,.int .i64 d,.int .u32 r]
def splitV (A:Ad):Value:=if ownA A=true then .tuple #[sidV (A.a8*256+A.a9) A.a10 (argA A),.bool true] else .tuple #[sidV 0 0 0,.bool false]
structure BdA (A:Ad):Prop where
 h0:0≤A.a0∧A.a0≤255
 h1:0≤A.a1∧A.a1≤255
 h2:0≤A.a2∧A.a2≤255
 h3:0≤A.a3∧A.a3≤255
 h4:0≤A.a4∧A.a4≤255
 h5:0≤A.a5∧A.a5≤255
 h6:0≤A.a6∧A.a6≤255
 h7:0≤A.a7∧A.a7≤255
 h8:0≤A.a8∧A.a8≤255
 h9:0≤A.a9∧A.a9≤255
 h10:0≤A.a10∧A.a10≤255
 h11:0≤A.a11∧A.a11≤255
 h12:0≤A.a12∧A.a12≤255
 h13:0≤A.a13∧A.a13≤255
 h14:0≤A.a14∧A.a14≤255
 h15:0≤A.a15∧A.a15≤255
theorem okA.bd {A:Ad} (h:okA A):BdA A:=
 ⟨h.at 0 (by omega),h.at 1 (by omega),h.at 2 (by omega),h.at 3 (by omega),h.at 4 (by omega),h.at 5 (by omega),h.at 6 (by omega),h.at 7 (by omega),h.at 8 (by omega),h.at 9 (by omega),h.at 10 (by omega),h.at 11 (by omega),h.at 12 (by omega),h.at 13 (by omega),h.at 14 (by omega),h.at 15 (by omega)⟩
theorem u8wf {x:Int} (h:0≤x∧x≤255):(Lit.int .u8 x).wf=true:=by simp[Lit.wf,IntKind.min,IntKind.max,IntKind.signed,IntKind.bits];omega
theorem BdA.ok {A:Ad} (h:BdA A):okA A:=by
 intro x hx;simp[Ad.l]at hx;rcases hx with rfl|rfl|rfl|rfl|rfl|rfl|rfl|rfl|rfl|rfl|rfl|rfl|rfl|rfl|rfl|rfl
 all_goals first|exact u8wf h.h0|exact u8wf h.h1|exact u8wf h.h2|exact u8wf h.h3|exact u8wf h.h4|exact u8wf h.h5|exact u8wf h.h6|exact u8wf h.h7|exact u8wf h.h8|exact u8wf h.h9|exact u8wf h.h10|exact u8wf h.h11|exact u8wf h.h12|exact u8wf h.h13|exact u8wf h.h14|exact u8wf h.h15
theorem likeA_ok {A:Ad} (h:okA A):okA (likeA A):=by
 have b:=(Vs.okA.bd h);exact BdA.ok ⟨by simp,by simp,by simp,by simp,by simp,by simp,by simp,by simp,b.h8,b.h9,b.h10,by simp,b.h12,b.h13,b.h14,b.h15⟩
theorem split_any {A:Ad} (hA:okA A) (w:World):Calls Tryz.prog 47 #[A.v] w fun e w'=>e=.returned (splitV A)∧Chg [] w w':=by
 have b:=(Vs.okA.bd hA);have HB:Blk ((w.alloc (.cells (arrA A) 24)).alloc (.cells #[.int .i64 0,.int .i64 0,.int .u32 0] 63)) w.heap.size 24 (arrA A):=(Blk.new _ _ _).alloc _
 have HS:Blk ((w.alloc (.cells (arrA A) 24)).alloc (.cells #[.int .i64 0,.int .i64 0,.int .u32 0] 63)) (w.heap.size+1) 63 #[.int .i64 0,.int .i64 0,.int .u32 0]:=Blk.new' (by simp);have HC:=((Chg.refl [] w).alloc (.cells (arrA A) 24)).alloc (.cells #[.int .i64 0,.int .i64 0,.int .u32 0] 63)
 have hl:∀x∈[A.a12,A.a13,A.a14,A.a15],0≤x∧x≤255:=by intro x hx;simp at hx;rcases hx with rfl|rfl|rfl|rfl<;>first|exact b.h12|exact b.h13|exact b.h14|exact b.h15
 have FU:=zH (fun (W:World) (h:Blk W w.heap.size 24 (arrA A))=>u16_at (h.cell 8) (h.cell 9) b.h8.1 b.h8.2 b.h9.1 b.h9.2);have FV:=zH (fun (W:World) (h:Blk W w.heap.size 24 (arrA A))=>u32_at (l:=[A.a12,A.a13,A.a14,A.a15]) rfl (fun i hi=>by
  have:i=0∨i=1∨i=2∨i=3:=by omega
  rcases this with rfl|rfl|rfl|rfl
  ·exact h.cell 12
  ·exact h.cell 13
  ·exact h.cell 14
  ·exact h.cell 15) hl)
 have FM:=zH (fun W=>make_any (node:=A.a8*256+A.a9) (arg:=argA A) W rfl (by simp[argA,val32]) b.h8.1 b.h8.2 b.h9.1 b.h9.2 b.h10.1 b.h10.2 b.h12.1 b.h12.2 b.h13.1 b.h13.2 b.h14.1 b.h14.2 b.h15.1 b.h15.2);have HE:=zH (fun W=>eq_ad W (likeA_ok hA) hA)
 have HV:Hid (splitV A=if ownA A=true then .tuple #[sidV (A.a8*256+A.a9) A.a10 (argA A),.bool true] else .tuple #[sidV 0 0 0,.bool false]):=zH rfl;have HAr:Hid (val32 [A.a12,A.a13,A.a14,A.a15]=argA A):=zH rfl;have hd0:=b.h10.1;have hd1:=b.h10.2;clear b hl hA;go_enter Tryz.func47,Tryz.ntmps47
 go_wp2_with fail;refine (FU.out _ HB).mono ?_;rintro e w1 ⟨rfl,q,rfl⟩;have HB1:=HB.chg ((Chg.refl [] _).drewN q) (by simp);have HS1:=HS.chg ((Chg.refl [] _).drewN q) (by simp);have HC1:=HC.drewN q;clear HB HS HC FU
 generalize World.drewN ((w.alloc (.cells (arrA A) 24)).alloc (.cells #[.int .i64 0,.int .i64 0,.int .u32 0] 63)) q=w1 at *;go_wp2_with fail;refine (FV.out _ HB1).mono ?_;rintro e w2 ⟨rfl,rfl⟩;rw[HAr.out];have hb:=cellsA HB1;clear FV;obtain⟨_,_,_,_,_,_,_,_,_,_,k10,_⟩:=hb;go_wp2_with fail
 refine (FM.out _).mono ?_;rintro e w3 ⟨rfl,hc3⟩;have hn:Blk (w1.alloc (.cells #[.int .i64 (A.a8*256+A.a9),.int .i64 A.a10,.int .u32 (argA A)] 63)) w1.heap.size 63 #[.int .i64 (A.a8*256+A.a9),.int .i64 A.a10,.int .u32 (argA A)]:=Blk.new _ _ _;have HN3:=hn.chg hc3 (by simp)
 have HC3:=((Chg.refl [] w1).alloc (.cells #[.int .i64 (A.a8*256+A.a9),.int .i64 A.a10,.int .u32 (argA A)] 63)).trans hc3;have HB3:=HB1.chg HC3 (by simp);have HS3:=HS1.chg HC3 (by simp);have HC3:=HC1.trans HC3;have hz3:=HS3.lt;clear hc3 hn HB1 HS1 HC1 FM k10
 have HB4:=HB3.alloc (.cells (arrA (likeA A)) 24);have HS4:=HS3.alloc (.cells (arrA (likeA A)) 24);have HN4:=HN3.alloc (.cells (arrA (likeA A)) 24);have HL4:Blk (w3.alloc (.cells (arrA (likeA A)) 24)) w3.heap.size 24 (arrA (likeA A)):=Blk.new _ _ _;have HC4:=HC3.alloc (.cells (arrA (likeA A)) 24)
 obtain⟨c0,c1,c2,c3,c4,c5,c6,c7,c8,c9,c10,c11,c12,c13,c14,c15⟩:=cellsA HB3;have hz4:w.heap.size<w3.heap.size:=by omega
 clear HB3 HS3 HC3 HN3;by_cases ho:likeA A=A
 ·have he:=HE.out (w3.alloc (.cells (arrA (likeA A)) 24));rw[decide_eq_true ho]at he;have HV2:Hid (splitV A=.tuple #[sidV (A.a8*256+A.a9) A.a10 (argA A),.bool true]):=zH (by rw[HV.out,if_pos (by simp[ownA,ho])]);clear HV HE ho;go_wp2_with (first
   |(refine zl rfl 24 _ rfl HL4 rfl _ Tryz.underlying24 rfl infA ?_)
   |(refine zl rfl 24 _ rfl HB4 rfl _ Tryz.underlying24 rfl infA ?_)
   |(refine zl rfl 63 _ rfl HN4 rfl _ Tryz.underlying63 rfl (by kernel_rfl) ?_)
   |(refine zs rfl 63 _ _ rfl rfl HS4 rfl rfl rfl (by kernel_rfl) rfl ?_;intro w5 hS5 hc5)
   |fail)
  exact bodyPost_ret (zr rfl rfl hS5 _ Tryz.underlying63 rfl (by kernel_rfl)) rfl ⟨by rw[HV2.out];rfl,HC4.trans' hc5 (by simp)⟩
 ·have he:=HE.out (w3.alloc (.cells (arrA (likeA A)) 24));rw[decide_eq_false ho]at he;have HV2:Hid (splitV A=.tuple #[sidV 0 0 0,.bool false]):=zH (by rw[HV.out,if_neg (by simp[ownA,ho])]);clear HV HE ho;go_wp2_with (first
   |(refine zl rfl 24 _ rfl HL4 rfl _ Tryz.underlying24 rfl infA ?_)
   |(refine zl rfl 24 _ rfl HB4 rfl _ Tryz.underlying24 rfl infA ?_)
   |(refine zs rfl 63 _ _ rfl rfl HS4 rfl rfl rfl (by kernel_rfl) rfl ?_;intro w5 hS5 hc5)
   |fail)
  exact bodyPost_ret (zr rfl rfl hS5 _ Tryz.underlying63 rfl (by kernel_rfl)) rfl ⟨by rw[HV2.out];rfl,HC4.trans' hc5 (by simp)⟩
end Go.Proofs.YtgbndaiifbogmaaGreat.Vs
