import Derived.Test.YtlkgkojidclncaaGreatTB14
import Derived.Test.YtlkgkojidclncaaGreatTB12
set_option maxRecDepth 100000
set_option maxHeartbeats 1600000
namespace Go.Proofs.YtlkgkojidclncaaGreat
open Go.RowKit Go.Maps Go.ChangeMaps Go.WideShapes
def KV.pl (K:KV) (r:Nat):PlaceV:=(K.A.list[r]?).getD PlaceV.zero
theorem KV.pl_at {K:KV} {r:Nat} {p:PlaceV} (h:K.A.list[r]?=some p):K.pl r=p:=by unfold KV.pl;rw [h];rfl
def netS (tb:Nat) (rv nv wv:Value):List Nat:=tb::(rv.ownBlock.toList++(nv.ownBlock.toList++wv.ownBlock.toList))
theorem mem_netS {tb k:Nat} {rv nv wv:Value}:k∈netS tb rv nv wv↔k=tb\/rv.ownBlock=some k\/nv.ownBlock=some k\/wv.ownBlock=some k:=by
 simp [netS]
structure NetIn (w:World) (tb:Nat) (K:KV) (L:List Nat) (rv nv wv:Value):Prop where
 blk:w.heap[tb]?=some (.cells #[rv,nv,wv] 92 (0,0))
 rr:w.ownsRow 0 62 1 rv L.length (flatRefs L)
 nn:w.ownsRow 0 95 3 nv L.length (flatNodes (L.map K.pl))
 ww:w.ownsRow 0 75 1 wv L.length (flatU (L.map fun r=>u64m (K.way r)))
theorem NetIn.lt {w:World} {tb:Nat} {K:KV} {L:List Nat} {rv nv wv:Value} (h:NetIn w tb K L rv nv wv) {k:Nat} (hk:k∈netS tb rv nv wv):k<w.heap.size:=by
 rcases mem_netS.1 hk with rfl | hk | hk | hk
 ·exact heap_lt h.blk
 ·exact (h.rr.lt k hk).2
 ·exact (h.nn.lt k hk).2
 ·exact (h.ww.lt k hk).2
theorem NetIn.keep {w w':World} {tb:Nat} {K:KV} {L:List Nat} {rv nv wv:Value} {S:List Nat} (h:NetIn w tb K L rv nv wv) (u:Upd S w w') (hS:∀ k,k∈netS tb rv nv wv->k∉S):NetIn w' tb K L rv nv wv :=
 ⟨(u.block tb (heap_lt h.blk) (hS tb (mem_netS.2 (.inl rfl)))).trans h.blk,row_keep h.rr fun k hk=>u.block k (h.rr.lt k hk).2 (hS k (mem_netS.2 (.inr (.inl hk)))),row_keep h.nn fun k hk=>u.block k (h.nn.lt k hk).2 (hS k (mem_netS.2 (.inr (.inr (.inl hk))))),row_keep h.ww fun k hk=>u.block k (h.ww.lt k hk).2 (hS k (mem_netS.2 (.inr (.inr (.inr hk)))))⟩
theorem NetIn.keep0 {w w':World} {tb:Nat} {K:KV} {L:List Nat} {rv nv wv:Value} (h:NetIn w tb K L rv nv wv) (u:Upd [] w w'):NetIn w' tb K L rv nv wv:=h.keep u (by simp)
theorem NetIn.ne {w:World} {tb:Nat} {K:KV} {L:List Nat} {rv nv wv:Value} (h:NetIn w tb K L rv nv wv):rv.ownBlock≠some tb/\nv.ownBlock≠some tb/\wv.ownBlock≠some tb :=
 ⟨blk_ne h.rr h.blk (by decide),blk_ne h.nn h.blk (by decide),blk_ne h.ww h.blk (by decide)⟩
theorem flatU_get {l:List Int} {i:Nat} {x:Int} (h:l[i]?=some x):(flatU l)[i]?=some (.int .u64 x):=by simp [flatU,h]
theorem nfind_spec (tb r:Nat) (K:KV) (L:List Nat) (rv nv wv:Value) (w:World) (h:NetIn w tb K L rv nv wv) (hl:L.length<=1048576) :
  Calls Tryz.prog 114 #[.pointer (some ⟨tb,0,none⟩),.int .u32 r] w fun e w'=>e=.returned (.int .i64 (placeOf L r))/\w'=w:=by
 obtain ⟨ra,rc,rfl,_⟩:=row_nil_len h.rr;have c0:w.cell? ⟨tb,0,none⟩=some (.slice ra L.length rc):=cell_at h.blk rfl;have HR:=Lib.hid h.rr;clear h;generalize hn:L.length=n at *;have HN:=Lib.hid hn;clear hn
 go_enter Tryz.func114,Tryz.ntmps114
 go_wp2_with fail
 go_loopg [11] n (fun g s11 wr=>∃ i:Nat,n-i=g/\i<=n/\s11=.int .i64 i/\(∀ j,j<i->L[j]?≠some r)/\wr=w)
 case atStart=>exact ⟨0,by omega,by omega,rfl,by omega,rfl⟩
 case round =>
  obtain ⟨i,rfl,hi,rfl,hno,rfl⟩:=hrel
  by_cases hlt:i<n
  ·obtain ⟨x,hx⟩ : ∃ x,L[i]?=some x:=⟨_,List.getElem?_eq_getElem (by rw [HN.out];exact hlt)⟩
   obtain ⟨ga,rfl⟩:=row_some HR.out (by omega);have x0:=row_cell HR.out (flatRefs_get hx)
   have hil:(i:Int)<(n:Int):=by omega
   by_cases hxr:x=r
   ·have hb:((x:Int) == (r:Int))=true:=by simp [hxr]
    have HE:Hid (placeOf L r=(i:Int)):=placeOf_at (by rw [hx,hxr]) hno;clear hno hx hxr;go_wp2_with fail;go_ret;exact ⟨by rw [HE.out];rfl,rfl⟩
   ·have hb:((x:Int) == (r:Int))=false:=by simp;omega
    have hb2:¬ ((x:Int)=(r:Int)):=by omega
    have HE:Hid (∀ j,j<i+1->L[j]?≠some r):=fun j hj=>by
     rcases Nat.lt_succ_iff_lt_or_eq.1 hj with h | rfl
     ·exact hno j h
     ·rw [hx];intro e;exact hxr (Option.some.inj e)
    clear hno hx hxr;go_wp2_with fail
    go_roundg (n-(i+1))
    case measure=>omega
    case rel=>exact ⟨i+1,rfl,by omega,by simp,HE.out,rfl⟩
  ·obtain rfl:i=n:=by omega
   have hil:¬ ((i:Int)<(i:Int)):=by omega
   have HE:Hid (placeOf L r=-1):=placeOf_none fun hm=>by
    obtain ⟨j,hj⟩:=List.getElem?_of_mem hm;exact hno j (by have:=(List.getElem?_eq_some_iff.1 hj).1;have:=HN.out;omega) hj
   clear hno;go_wp2_with fail;go_ret;exact ⟨by rw [HE.out];rfl,rfl⟩
theorem ncount_spec (tb r:Nat) (K:KV) (L:List Nat) (rv nv wv:Value) (w:World) (h:NetIn w tb K L rv nv wv) (hl:L.length<=1048576) (hr:r<2\/r∈L) :
  Calls Tryz.prog 42 #[.pointer (some ⟨tb,0,none⟩),.int .u32 r] w fun e w'=>e=.returned (.int .u64 (u64m (K.way r)))/\Upd [] w w':=by
 have HF:=Lib.hid (fun z (u:Upd [] w z)=>nfind_spec tb r K L rv nv wv z (h.keep0 u) hl);obtain ⟨wa,wc,rfl,_⟩:=row_nil_len h.ww;have HW:=Lib.hid h.ww;have c2:w.cell? ⟨tb,2,none⟩=some (.slice wa L.length wc):=cell_at h.blk rfl
 by_cases h2:r<2
 ·have hd:decide ((r:Int)<=1)=true:=by simp;omega
  have hle:(r:Int)<=1:=by omega
  have HE:Hid (u64m (K.way r)=(r:Int)):=by
   show _=_
   rw [K.way_const h2];exact u64m_small h2
  have hcv:IntKind.u64.wrap (r:Int)=(r:Int):=by rw [IntKind.wrap_u64];omega
  clear h hr c2
  go_enter Tryz.func42,Tryz.ntmps42
  go_wp2_with fail;go_ret;exact ⟨by rw [HE.out];rfl,Upd.refl _ _⟩
 ·have hd:decide ((r:Int)<=1)=false:=by simp;omega
  have hle:¬ (r:Int)<=1:=by omega
  obtain ⟨i,hi,hx⟩:=placeOf_some (hr.resolve_left h2);have hil:=(List.getElem?_eq_some_iff.1 hx).1;have HX:=Lib.hid hx;rw [hi] at HF;have HGET:Hid ((flatU (L.map fun r=>u64m (K.way r)))[i]?=some (.int .u64 (u64m (K.way r)))):=flatU_get (by rw [List.getElem?_map,hx];rfl);obtain ⟨ga,rfl⟩:=row_some HW.out (by omega);have x0:=row_cell HW.out HGET.out
  have hii:(i:Int)<(L.length:Int):=by omega
  have HK:Hid (∀ z,Upd [] w z->z.cell? ⟨tb,2,none⟩=some (.slice (some ⟨ga,0,none⟩) L.length wc)/\z.cell? ⟨ga,i,none⟩=some (.int .u64 (u64m (K.way r)))):=fun z u=>⟨u.cell0 c2,u.cell0 x0⟩
  generalize u64m (K.way r)=v at *;generalize L.length=n at *;clear h hr hi hx HX HGET HW
  go_enter Tryz.func42,Tryz.ntmps42
  go_wp2_with fail
  go_region_held3 (fun z=>z.cell? ⟨tb,2,none⟩=some (.slice (some ⟨ga,0,none⟩) n wc)/\z.cell? ⟨ga,i,none⟩=some (.int .u64 v)) (first | exact HK.out _ (Upd.refl _ _).drew) (first
   | (go_at_call 114;refine (HF.out _ (Upd.refl _ _).drew).mono ?_;rintro e w2 ⟨rfl,rfl⟩))
  all_goals go_wp2_with fail
  all_goals go_ret
  all_goals exact ⟨rfl,(Upd.refl _ _).drew⟩
end Go.Proofs.YtlkgkojidclncaaGreat
