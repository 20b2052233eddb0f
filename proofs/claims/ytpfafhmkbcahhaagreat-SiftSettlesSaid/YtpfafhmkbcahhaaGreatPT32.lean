import Derived.Test.YtpfafhmkbcahhaaGreatPT31
set_option maxRecDepth 100000
set_option maxHeartbeats 800000
namespace Go.Proofs.YtpfafhmkbcahhaaGreat
open Go.RowKit Go.Maps Go.ChangeMaps Go.WideShapes
def MV.wid (M:MV) (v:Nat):Nat:=(M.lev.getD (M.lvl v) []).length
theorem mwidth_spec (m v:Nat) (M:MV) (p:MPtr) (Z:List Nat) (w:World) (h:ModIn w m M p Z) (hZ:∀ k,k∈Z->k<w.heap.size) (hf:M.Fit) (hv:v∈M.order) :
  Calls Tryz.prog 133 #[.pointer (some ⟨m,0,none⟩),.int .i64 v] w fun e w'=>e=.returned (.int .i64 (M.wid v))/\Upd [] w w':=by
 have hl1:=(MV.lvl_at hv).1;have hll:M.lev.length=M.order.length:=levT_len _ _;have HL:=Lib.hid (mlevel_spec m v M p Z w h hv (by have:=hf.ol;omega));have HS:=Lib.hid (mlevels_spec m M p Z w h hZ hf);obtain ⟨l,hl⟩ : ∃ l,M.lev[M.lvl v]?=some l:=⟨_,List.getElem?_eq_getElem (by omega)⟩
 have HW:Hid (M.wid v=l.length):=by show _=_;unfold MV.wid;rw [List.getD_eq_getElem?_getD,hl];rfl
 have hi:(M.lvl v:Int)<(M.lev.length:Int):=by omega
 have hlv:M.lvl v<M.lev.length:=by omega
 have h64:M.lvl v<=64:=by have:=hf.ol;omega
 generalize M.lvl v=L at *;have HLL:=Lib.hid hl;clear h hZ hf hv hl hl1 hll
 go_enter Tryz.func133,Tryz.ntmps133
 go_wp2_with fail;refine HL.out.mono ?_;rintro e w1 ⟨rfl,rfl⟩;go_wp2_with fail;refine HS.out.mono ?_;rintro e w2 hE;obtain ⟨tv,rfl,hT,hu⟩:=hE.ex;obtain ⟨ta,tc,rfl,hta⟩:=hT.form;obtain ⟨tg,rfl⟩:=hta (by omega);obtain ⟨c,q1,q2⟩:=hT.at_ HLL.out;obtain ⟨ca,cc,rfl,_⟩:=q2.form;have HU:=Lib.hid hu;clear hE hT hta q2 hu;go_wp2_with fail;go_ret;exact ⟨by rw [HW.out];rfl,HU.out⟩
end Go.Proofs.YtpfafhmkbcahhaaGreat
