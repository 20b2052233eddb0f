/- slices.Clone of numbers; the kernel's Order and New. -/
import Derived.Test.YtnenhecnkidnpaaKC
namespace Go.Proofs.Ytnenhecnkidnpaa
open Go.RowKit Go.Maps Go.ChangeMaps Go.WideShapes

set_option maxRecDepth 100000 in
set_option maxHeartbeats 800000 in
theorem clone_spec (sv : Value) (l : List Nat) (w : World) (h : w.ownsRow 0 3 1 sv l.length (flatN l)) (h1 : 1 ≤ l.length) (hn : l.length ≤ 1048576) :
    Calls Try.prog 33 #[sv] w fun e w' => ∃ (g cap : Nat), e = .returned (.slice (some ⟨g, 0, none⟩) l.length cap) ∧ w'.ownsRow w.heap.size 3 1 (.slice (some ⟨g, 0, none⟩) l.length cap) l.length (flatN l) ∧ Upd [] w w' := by
  obtain ⟨fa, fc, rfl, _⟩ := row_nil_len h
  obtain ⟨g0, rfl⟩ := row_some h (by omega)
  obtain ⟨i, hi0, hz0, hz1', hz2⟩ := info_parts Try.infoIntI
  have HI := Lib.hid hi0
  have HZ := Lib.hid hz0
  have HZ1 := Lib.hid hz1'
  have HZ2 := Lib.hid hz2
  have HR := Lib.hid h
  have HCS : Hid (∀ j u, (flatN l)[j]? = some u → w.cell? ((⟨g0, 0, none⟩ : Addr).add j) = some u) := h.cells rfl
  have HC2 : Hid (∀ u, u ∈ flatN l → u.oneCell' = true) := by
    intro u hu
    obtain ⟨a, _, rfl⟩ := List.mem_map.1 hu
    rfl
  have hlen : (flatN l).length = l.length * 1 := by simp [flatN]
  generalize hll : l.length = n at *
  clear h hi0 hz0 hz1' hz2
  go_enter Try.func33, Try.ntmps33
  have hbin : ∀ (w : World), (binOp BinOp.eql 22 (Value.slice (some ⟨g0, 0, none⟩) n fc) (Value.slice none 0 0)).run Try.prog w = .ok (.bool false) w := fun w => by kernel_rfl
  have HL : Hid ((w.alloc (.cells #[] 3 (0, 0))).ownsRow w.heap.size 3 1 (.slice (some ⟨w.heap.size, 0, none⟩) 0 0) 0 []) := World.ownsRow_lit w #[] 0 (Nat.le_refl _) (by unfold maxLen; omega) (by simp)
  have HB : Hid (∀ j u, (flatN l)[j]? = some u → (w.alloc (.cells #[] 3 (0, 0))).cell? ((⟨g0, 0, none⟩ : Addr).add j) = some u) := by
    intro j u hu
    have := HCS.out j u hu
    rw [← this]
    exact World.cell?_of_block (heap_alloc_old w _ (World.block_lt_of_cell? _ _ this))
  have hbs : w.heap.size ≤ (w.alloc (.cells #[] 3 (0, 0))).heap.size := by rw [World.size_alloc]; omega
  go_wp2_with (at_builtin; go_must (refine wpList_append_lies _ rfl (.tmp 5) (.tmp 6) 22 rfl w.heap.size 3 i _ 1 8 Try.underlying22 HI.out HZ.out HZ1.out HZ2.out (by rfl) (by decide) _ 0 [] rfl HL.out ⟨g0, 0, none⟩ n fc (flatN l) rfl hlen ?c1 HC2.out (by omega) (by unfold maxLen; omega) (by omega) hbs _ rfl ?_))
  case c1 => exact HB.out
  intro g cap w' hown hgr hat hlt
  have HE : Hid (w'.ownsRow w.heap.size 3 1 (.slice (some ⟨g, 0, none⟩) n cap) n (flatN l) ∧ Upd [] w w') := by
    refine ⟨by simpa using hown, ((Upd.refl [] w).alloc _).grown hgr fun k hk => ?_⟩
    simp [Value.ownBlock] at hk
    right; omega
  clear hown hgr hat hlt
  go_wp2_with fail
  go_ret
  exact ⟨g, cap, rfl, HE.out⟩

set_option maxRecDepth 100000 in
theorem order_spec (b : Nat) (K : KV) (T : List DM) (q : KPtr) (w : World) (h : KerMem w b K T q) (h1 : 1 ≤ K.order.length) (hn : K.order.length ≤ 1048576) :
    Calls Try.prog 24 #[.pointer (some ⟨b, 0, none⟩)] w fun e w' => ∃ (g cap : Nat), e = .returned (.slice (some ⟨g, 0, none⟩) K.order.length cap) ∧ w'.ownsRow w.heap.size 3 1 (.slice (some ⟨g, 0, none⟩) K.order.length cap) K.order.length (flatN K.order) ∧ Upd [] w w' := by
  have c5 : w.cell? ⟨b, 5, none⟩ = some q.ov := cell_at h.blk rfl
  have HO := Lib.hid h.os
  clear h
  go_enter Try.func24, Try.ntmps24
  go_wp2_with fail
  refine (clone_spec q.ov K.order w HO.out h1 hn).mono ?_
  rintro e w1 ⟨g, cap, rfl, ho, hu⟩
  have HE := Lib.hid (And.intro ho hu)
  clear ho hu
  go_wp2_with fail
  go_ret
  exact ⟨g, cap, rfl, HE.out⟩

def KV.new (n m : Nat) : KV := ⟨ArenaV.new m, [], [], n, List.range n, List.range n, []⟩

theorem KV.new_ok {n m : Nat} (h1 : 1 ≤ n) (hn : n ≤ 64) (h2 : 2 ≤ m) (hm : m ≤ 1048576) : (KV.new n m).Ok := by
  have hA := ArenaV.new_ok h2 hm
  have no : ∀ (r : Nat) (p : PlaceV), 2 ≤ r → (KV.new n m).A.list[r]? = some p → False := by
    intro r p hr hp
    have := (List.getElem?_eq_some_iff.1 hp).1
    simp [KV.new, ArenaV.new] at this
    omega
  have notk : ∀ r, 2 ≤ r → (KV.new n m).A.tk r = true → False := fun r hr ht => by
    obtain ⟨p, hp, _⟩ := ArenaV.tk_iff.1 ht
    exact no r p hr hp
  have hold0 : ∀ r, (KV.new n m).hold r = 0 := fun r => by simp [KV.hold, KV.new]
  have hlev : ∀ v, v < n → (KV.new n m).lev v = v := fun v hv => by simp [KV.lev, KV.new, hv]
  have hord : ∀ v, v < n → (KV.new n m).order.getD v 0 = v := fun v hv => by simp [KV.new, hv]
  refine ⟨⟨hA, rfl, by simp [KV.new], fun r h ht => (notk r h ht).elim, fun r h => by rw [hold0] at h; omega, fun r => by rw [hold0]; omega, fun r h ht => (notk r h ht).elim, by simp, fun q p h hp _ => (no q p h hp).elim, fun q p h hp _ => (no q p h hp).elim, h1, hn⟩,
    fun r h ht => (notk r h ht).elim, ⟨⟨by simp [KV.new], by simp [KV.new], ?_, ?_⟩, fun q p h hp _ => (no q p h hp).elim, fun q p h hp _ => (no q p h hp).elim⟩, by simp [KV.new]⟩
  · intro v hv
    rw [hlev v hv]
    exact ⟨hv, hord v hv⟩
  · intro v hv
    rw [hord v hv]
    exact ⟨hv, hlev v hv⟩

theorem TInv.new (n m : Nat) : TInv (List.replicate n (.map [])) (KV.new n m) [] := by
  refine ⟨by simp [KV.new], ?_, ?_, ?_⟩
  · intro v D k hD hk
    have : D = .map [] := (List.mem_replicate.1 (List.mem_of_getElem? hD)).2
    subst this
    simp [Maps.has] at hk
  · intro r p D hr hp
    have := (List.getElem?_eq_some_iff.1 hp).1
    simp [KV.new, ArenaV.new] at this
    omega
  · intro D hD
    rw [(List.mem_replicate.1 hD).2]
    exact isMap_empty

set_option maxRecDepth 100000 in
theorem newStore_spec (m t : Nat) (w : World) (h2 : 2 ≤ m) (hm : m ≤ 1048576) :
    Calls Try.prog 32 #[.int .i64 m, .pointer (some ⟨t, 0, none⟩)] w fun e w' => ∃ a F, e = .returned (.tuple #[.agg #[.pointer (some ⟨a, 0, none⟩), .pointer (some ⟨t, 0, none⟩), .slice none 0 0, .slice none 0 0], .int .i64 0]) ∧
      ArenaAt w' a (ArenaV.new m) F ∧ Upd [] w w' ∧ Sub [] w F := by
  go_enter Try.func32, Try.ntmps32
  go_wp2_with fail
  refine (new_spec m _ h2 hm).mono ?_
  rintro e w1 ⟨a, F, rfl, ha, hu, hs⟩
  have hbx : w1.heap[w.heap.size]? = some (.cells #[.pointer none, .pointer none, .slice none 0 0, .slice none 0 0] 70 (0, 0)) := (hu.block w.heap.size (by simp) (by simp)).trans (heap_alloc_new w _)
  have b0 : w1.cell? ⟨w.heap.size, 0, none⟩ = some (.pointer none) := cell_at hbx rfl
  have b1 : w1.cell? ⟨w.heap.size, 1, none⟩ = some (.pointer none) := cell_at hbx rfl
  have b2 : w1.cell? ⟨w.heap.size, 2, none⟩ = some (.slice none 0 0) := cell_at hbx rfl
  have b3 : w1.cell? ⟨w.heap.size, 3, none⟩ = some (.slice none 0 0) := cell_at hbx rfl
  have f0 := frozen_at 0 hbx
  have f1 := frozen_at 1 hbx
  have f2 := frozen_at 2 hbx
  have f3 := frozen_at 3 hbx
  have HX := Lib.hid hbx
  have HU : Hid (Upd [] w w1) := ((Upd.refl [] w).alloc _).trans (hu.mono (by simp))
  have HA : Hid (∀ w2, Upd [w.heap.size] w1 w2 → ArenaAt w2 a (ArenaV.new m) F) := fun w2 u => ha.upd u (fun k hk hm => by
    simp at hm
    have := hs k hk
    simp at this
    omega)
  have HS : Hid (Sub [] w F) := fun k hk => by
    have := hs k hk
    simp at this
    right; omega
  clear hu hbx ha hs
  go_wp2_with fail
  have e := heap_set_eq (j := 3) (heap_set_eq (j := 2) (heap_set_eq (j := 1) (heap_set_eq (j := 0) HX.out (.pointer (some ⟨a, 0, none⟩))) (.pointer (some ⟨t, 0, none⟩))) (.slice none 0 0)) (.slice none 0 0)
  have r0 := cell_at (j := 0) e rfl
  have r1 := cell_at (j := 1) e rfl
  have r2 := cell_at (j := 2) e rfl
  have r3 := cell_at (j := 3) e rfl
  refine bodyPost_ret (v := .tuple #[.agg #[.pointer (some ⟨a, 0, none⟩), .pointer (some ⟨t, 0, none⟩), .slice none 0 0, .slice none 0 0], .int .i64 0]) (by simp [results, Try.results32, go_sem, r0, r1, r2, r3]) rfl ⟨a, F, rfl, HA.out _ ?_, ?_, HS.out⟩
  · exact ((((Upd.refl _ w1).setCell (.inl (by simp)) _).setCell (.inl (by simp)) _).setCell (.inl (by simp)) _).setCell (.inl (by simp)) _
  · exact (((HU.out.setCell (.inr (Nat.le_refl _)) _).setCell (.inr (Nat.le_refl _)) _).setCell (.inr (Nat.le_refl _)) _).setCell (.inr (Nat.le_refl _)) _
end Go.Proofs.Ytnenhecnkidnpaa
