/- CountAsks: for every input the law returns true and changes nothing that was there; the input is of bulk at most 1048576 (the given statement own bound). -/
import Derived.Test.YtfkopmhpppeheaaGreatPY30
import Derived.Test.YtfkopmhpppeheaaGreatPY29
import Derived.Test.YtfkopmhpppeheaaGreatPY31
import Derived.WalkKit
import Derived.ProofKit
import Derived.OpenShut
import Derived.ShutString
import Derived.ChangeOld
import Derived.Below
import Derived.JoinedCond
namespace Go.Proofs.YtfkopmhpppeheaaGreat.countAsks
open Go.ChangeShapes Go.WideShapes Go.ChangeAt Go.RowKit
set_option linter.unusedVariables false
theorem one_le {H:Type} (d:DataW H):1<=Rows.uptoBulk d:=by
 cases d with
 | lit l=>cases l <;> simp [Rows.uptoBulk]
 | nil=>simp [Rows.uptoBulk]
 | ptr d=>simp [Rows.uptoBulk]
 | slice a b=>simp [Rows.uptoBulk]
 | agg a=>simp [Rows.uptoBulk]
 | iface a b=>simp [Rows.uptoBulk]
 | map a=>simp [Rows.uptoBulk]
 | held a=>simp [Rows.uptoBulk]
theorem length_le {H:Type} (l:List (DataW H)):l.length<=Rows.uptoBulkAll l:=by
 induction l with
 | nil=>simp [Rows.uptoBulkAll]
 | cons x r ih=>have:=one_le x;simp only [Rows.uptoBulkAll,List.length_cons];omega
theorem len_le {H:Type} {W:World} {k:IntKind} {a:Option Addr} {len cap:Nat} {x:DataW H × List MemPlace}
  (h:(([Value.slice a len cap]:List Value)=[.slice none 0 0]/\x=(.nil,[])) \/
   ∃ (y:Addr) (l c:Nat) (zs:List Int),([Value.slice a len cap]:List Value)=[.slice (some y) l c]/\0<=y.block/\l<=c/\c<=maxLen/\zs.length=(if (fun _=>true) y.block then c else l) /\
    x=(.slice (lits k (zs.take l)) (lits k (zs.drop l)),MemPlace.row y zs.length)/\(∀ i,i<zs.length->W.cell? (y.add i)=some (.int k (zs.getD i 0)))/\(∀ n∈zs,(Lit.int k n).wf=true)):len<=Rows.uptoBulk x.1:=by
 rcases h with ⟨hcs,hx⟩ | ⟨y,l,c,zs,hcs,_,hl,hm,hz,hx,hcell,hwz⟩
 ·simp at hcs
  obtain ⟨rfl,rfl,rfl⟩:=hcs;omega
 ·simp at hcs
  obtain ⟨rfl,rfl,rfl⟩:=hcs;rw [hx];have h1:=length_le (lits (H:=H) k (zs.take len))
  have h2:(lits (H:=H) k (zs.take len)).length=len:=by
   have:zs.length=cap:=by simpa using hz
   simp [lits];omega
  simp only [Rows.uptoBulk]
  omega
theorem walk (sn room:Int) (la wa:Option Addr) (ln lc wn wk:Nat) (Ls Ws:List Int) (ua:Option Addr) (un uc:Nat) (Us:List Int) (w:World) (hL:RowOf w .i64 la ln Ls) (hW:RowOf w .u64 wa wn Ws) (hU:∀ x,x∈Ws->U64 x) (hX:RowC w .u64 ua un uc Us) (hb1:un<=1048576) :
  Calls Tryz.prog 11 #[.agg #[.int .i64 sn,.int .i64 room,.slice la ln lc,.slice wa wn wk],.slice ua un uc] w fun e w'=>e=.returned (.bool true)/\Below w.heap.size w w' :=
 (countAsks_walk sn room la wa ua ln lc wn wk un uc Ls Ws Us w hL hW hU hX hb1).mono fun _ _ ⟨h,u⟩=>⟨h,u.os,u.tape,u.output,u.size,fun k hk=>u.block k hk (by simp)⟩
set_option maxRecDepth 100000 in
theorem contract (H:Type) (enc:TypeId × Value->H) (W:World) (base:Nat) (args:Array Value) (ds gs:List (DataW H)) (before:List MemPlace)
  (hval:∀ (j:Nat) t v,Tryz.f11.params[j]?=some t->args[j]?=some v->Value.okWide Tryz.prog W .any base t v)
  (hW:DataW.Whole enc Tryz.prog Tryz.f11.params.toList Rows.countAsksSpec.vars false W args.toList ds gs before) (hk:Rows.uptoSmall H (ds++gs)=true) :
  Calls Tryz.prog 11 args W fun e W'=>∃ v,e=.returned v/\Rows.countAsksSpec.post enc Tryz.prog Tryz.f11 false true false false W args v W':=by
 have hW':=hW;obtain ⟨p,q,hA0,hV,rfl,hfz,hnd⟩:=hW;have hA:DataW.TrodAll enc Tryz.prog W 0 (fun _=>true) true Tryz.f11.params.toList args.toList ds p:=hA0;rw [Tryz.params11] at hA hval;obtain ⟨v0,vs0,d0,ds0,p0,q0,hargs,rfl,rfl,h0,r0⟩:=trodAll_cons hA;obtain ⟨v1,vs1,d1,ds1,p1,q1,rfl,rfl,rfl,h1,r1⟩:=trodAll_cons r0;obtain ⟨rfl,rfl,rfl⟩:=trodAll_nil r1
 obtain rfl:args=#[v0,v1]:=by cases args;simp_all
 obtain ⟨rfl,rfl⟩:=trodVars_none hV;obtain ⟨sn,room,la,wa,ln,lc,wn,wk,Ls,Ws,rfl,hL,hWs,hU⟩:=state_shape (hval 0 95 v0 rfl rfl) h0;obtain ⟨ua,un,uc,rfl⟩:=okWide_slice Tryz.underlying68 (hval 1 68 v1 rfl rfl);have k1:=h1
 have lt1:∀ x∈p1,x.block<W.heap.size:=by obtain ⟨m,hm⟩:=k1;exact DataW.trod_lt m _ _ _ hm
 have hl1:un<=Rows.uptoBulk d1:=by
  obtain ⟨fuel,hf⟩:=h1;exact len_le (open_ints Tryz.underlying68 Tryz.underlying90 u64Size hf)
 obtain ⟨Us,hX⟩ : ∃ Us,RowC W .u64 ua un uc Us:=by
  obtain ⟨fuel,hf⟩:=h1;obtain ⟨a',n',c',Us,e,hX⟩:=RowC.of_ints (open_ints Tryz.underlying68 Tryz.underlying90 u64Size hf)
  simp [Value.cells] at e
  obtain ⟨rfl,rfl,rfl⟩:=e;exact ⟨Us,hX⟩
 have k0:=h0
 have lt0:∀ x∈p0,x.block<W.heap.size:=by obtain ⟨m,hm⟩:=k0;exact DataW.trod_lt m _ _ _ hm
 clear hA0;have hb:Rows.uptoBulkAll ([d0,d1]++[])<=1048576:=of_decide_eq_true hk
 simp only [List.append_nil,Rows.uptoBulkAll] at hb
 have hb1:un<=1048576:=by omega
 refine (walk sn room la wa ln lc wn wk Ls Ws ua un uc Us W hL hWs hU hX hb1).mono fun e W' ⟨he,bel⟩=>?_
 subst he;exact ⟨_,rfl,_,_,_,[],_,[],hW',trodAll_mk1 (shut_bool Tryz.underlying4 _),(trodAll_cons_mk (Below.trod laid_out (by kernel_rfl) (of_decide_eq_true (by kernel_rfl)) k0 bel lt0) (trodAll_cons_mk (Below.trod laid_out (by kernel_rfl) (of_decide_eq_true (by kernel_rfl)) k1 bel lt1) trodAll_mk0)),rfl,bel.frame _,fun h=>by cases h⟩
set_option maxRecDepth 100000 in
theorem lifted (os:Os) (started:os.Started) (H:Type) (enc:TypeId × Value->H) (F:Stop.Interp) :
  ReturnsInHanded {} Tryz.checked os 11 .any ((Rows.OpenSpec.upto Rows.countAsksSpec).pre6 enc Tryz.prog Tryz.f11 Rows.countAsksUptoRow.domain false) (((Rows.OpenSpec.upto Rows.countAsksSpec).at F).post enc Tryz.prog Tryz.f11 false true false false):=by
 refine returnsInHanded_of_cond (C:=Tryz.checked) (s:=Rows.OpenSpec.upto Rows.countAsksSpec) (k:=Rows.uptoSmall) rfl own_knob started (by kernel_rfl) Tryz.func11
  (OpenSpec.witness (enc:=enc) (C:=Tryz.checked) (s:=Rows.OpenSpec.upto Rows.countAsksSpec) (k:=Rows.uptoSmall) rfl false ⟨#[],#[.agg #[.int .i64 0,.int .i64 0,.slice none 0 0,.slice none 0 0],.slice none 0 0],[]⟩ 8 (by kernel_rfl) (by kernel_rfl) (by kernel_rfl)
   (x:=([.agg [.lit (.int .i64 0),.lit (.int .i64 0),.nil,.nil],.nil],[],[])) (by kernel_rfl) rfl (by kernel_rfl)) ?_
 intro W base args ds gs before hval hW _ hk _
 exact contract H enc W base args ds gs before hval hW hk
theorem over:Rows.countAsksUptoRow.holds Tryz.pinned (Rows.OpenSpec.upto Rows.countAsksSpec) :=
 OpenClaim.holds_of_cond 11 Tryz.f11 rfl rfl rfl rfl rfl rfl rfl ⟨rfl,rfl,rfl,rfl,rfl⟩ rfl rfl rfl rfl rfl (by kernel_rfl) Tryz.func11 countAsksC_facts
  (of_decide_eq_true (by kernel_rfl)) (by unfold Func.isWrapper;first | (rw [if_pos (by decide +kernel)];kernel_rfl) | (rw [if_neg (by decide +kernel)];exact ⟨rfl,rfl⟩))
  (fun os started H enc _ F=>lifted os started H enc F)
theorem proved:Rows.CountAsksUptoSaid:=over
#print axioms proved
end Go.Proofs.YtfkopmhpppeheaaGreat.countAsks
