import Derived.Test.YtpfafhmkbcahhaaGreatPT27
set_option maxRecDepth 100000
namespace Go.Proofs.YtpfafhmkbcahhaaGreat
open Go.RowKit Go.Maps Go.ChangeMaps Go.WideShapes
theorem sall_bad (b:Nat) (g:Int) (w:World) (hg:growE g=1):Calls Tryz.prog 36 #[.pointer (some ⟨b,0,none⟩),.int .i64 g] w fun e w'=>e=.returned (.tuple #[.agg #[.int .i64 0,.int .i64 0,.int .i64 0,.bool false],.int .i64 1])/\Upd [] w w':=by
 have HRI:Hid ((Tryz.prog.info? 36).map (·.size)=some 4):=by show _=_;kernel_rfl
 have HB:=Lib.hid (heap_alloc_new w (.cells #[.int .i64 0,.int .i64 0,.int .i64 0,.bool false] 36 (0,0)));have HG:=Lib.hid hg;clear hg
 go_enter Tryz.func36,Tryz.ntmps36
 go_wp2_with fail;refine (scheck_spec b g _).mono ?_;rintro e w1 ⟨rfl,rfl⟩;rw [HG.out];go_wp2_with fail;exact bodyPost_ret (ret_rep rfl _ _ w.heap.size #[.int .i64 0,.int .i64 0,.int .i64 0,.bool false] (.int .i64 1) _ rfl rfl HB.out Tryz.underlying36 rfl HRI.out) rfl ⟨rfl,(Upd.refl _ _).alloc _⟩
theorem ret_rep2 {P:Program} {fn:Func} {p u x:Tmp} {ty:TypeId} (h:fn.results=#[.cell p ty,.tmp u,.tmp x]) (tmps:Array Value) (Z:World) (rc:Nat) (cs:Array Value) (e f:Value) (d:TypeDesc) (hp:tmps.getD p undef=.pointer (some ⟨rc,0,none⟩)) (hu:tmps.getD u undef=e) (hx:tmps.getD x undef=f)
  (hg:Z.heap[rc]?=some (.cells cs ty (0,0))) (hun:P.underlying ty=some d) (hd:(match d with | .struct _ | .array _ _=>true | _=>false)=true) (hi:(P.info? ty).map (·.size)=some cs.size) :
  (results fn tmps).run P Z=.ok (.tuple #[.agg cs,e,f]) Z:=by
 have hld:=run_loadVar_row (P:=P) Z rc ty ty cs (0,0) d hg hun hd hi
 have hp':tmps[p]?.getD undef=.pointer (some ⟨rc,0,none⟩):=by simpa using hp
 have hu':tmps[u]?.getD undef=e:=by simpa using hu
 have hx':tmps[x]?.getD undef=f:=by simpa using hx
 simp [results,h,asAddr,Result.andThen,hld,hp',hu',hx']
theorem settle_bad (b:Nat) (g:Int) (w:World) (hg:growE g=1):Calls Tryz.prog 42 #[.pointer (some ⟨b,0,none⟩),.int .i64 g] w fun e w'=>e=.returned (.tuple #[.agg #[.int .i64 0,.int .i64 0,.int .i64 0,.bool false],.int .i64 0,.int .i64 1])/\Upd [] w w':=by
 have HRI:Hid ((Tryz.prog.info? 36).map (·.size)=some 4):=by show _=_;kernel_rfl
 have HB:=Lib.hid (heap_alloc_new w (.cells #[.int .i64 0,.int .i64 0,.int .i64 0,.bool false] 36 (0,0)));have HG:=Lib.hid hg;clear hg
 go_enter Tryz.func42,Tryz.ntmps42
 go_wp2_with fail;refine (scheck_spec b g _).mono ?_;rintro e w1 ⟨rfl,rfl⟩;rw [HG.out];go_wp2_with fail;exact bodyPost_ret (ret_rep2 rfl _ _ w.heap.size #[.int .i64 0,.int .i64 0,.int .i64 0,.bool false] (.int .i64 0) (.int .i64 1) _ rfl rfl rfl HB.out Tryz.underlying36 rfl HRI.out) rfl ⟨rfl,(Upd.refl _ _).alloc _⟩
end Go.Proofs.YtpfafhmkbcahhaaGreat
