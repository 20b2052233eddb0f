/- The kernel in memory: where its parts stand, and that they stand apart. -/
import Derived.Test.YtnenhecnkidnpaaTabN
import Derived.Test.YtnenhecnkidnpaaKP
import Derived.Test.YtnenhecnkidnpaaArA
import Derived.Test.YtnenhecnkidnpaaArB
import Derived.Test.YtnenhecnkidnpaaArN
namespace Go.Proofs.Ytnenhecnkidnpaa
open Go.RowKit Go.Maps Go.ChangeMaps Go.WideShapes

def flat32 (l : List Nat) : List Value := l.map fun (n : Nat) => Value.int .i32 n

/-- Where the parts lie: the arena, the table, the five slices; whose each block is. -/
structure KPtr where
  a : Nat
  t : Nat
  uv : Value
  hv : Value
  ov : Value
  lv : Value
  tv : Value
  FA : List Nat
  FT : List Nat
  o : Nat → Nat

def KPtr.all (q : KPtr) (b : Nat) : List Nat := b :: (q.FA ++ (q.FT ++ (q.uv.ownBlock.toList ++ (q.hv.ownBlock.toList ++ (q.ov.ownBlock.toList ++ (q.lv.ownBlock.toList ++ q.tv.ownBlock.toList))))))

structure KerMem (w : World) (b : Nat) (K : KV) (T : List DM) (q : KPtr) : Prop where
  blk : w.heap[b]? = some (.cells #[.pointer (some ⟨q.a, 0, none⟩), .pointer (some ⟨q.t, 0, none⟩), q.uv, q.hv, .int .i64 K.vars, q.ov, q.lv, q.tv] 75 (0, 0))
  ar : ArenaAt w q.a K.A q.FA
  tab : TabAt w q.t T q.FT
  us : w.ownsRow 0 21 1 q.uv K.uses.length (flat32 K.uses)
  hs : w.ownsRow 0 21 1 q.hv K.holds.length (flat32 K.holds)
  os : w.ownsRow 0 3 1 q.ov K.order.length (flatN K.order)
  ls : w.ownsRow 0 3 1 q.lv K.level.length (flatN K.level)
  ts : w.ownsRow 0 3 1 q.tv K.trail.length (flatN K.trail)
  ob : q.o b = 0
  oa : ∀ k, k ∈ q.FA → q.o k = 1
  ot : ∀ k, k ∈ q.FT → q.o k = 2
  ou : ∀ k, q.uv.ownBlock = some k → q.o k = 3
  oh : ∀ k, q.hv.ownBlock = some k → q.o k = 4
  oo : ∀ k, q.ov.ownBlock = some k → q.o k = 5
  ol : ∀ k, q.lv.ownBlock = some k → q.o k = 6
  ox : ∀ k, q.tv.ownBlock = some k → q.o k = 7

theorem KPtr.mem {q : KPtr} {b k : Nat} : k ∈ q.all b ↔ k = b ∨ k ∈ q.FA ∨ k ∈ q.FT ∨ q.uv.ownBlock = some k ∨ q.hv.ownBlock = some k ∨ q.ov.ownBlock = some k ∨ q.lv.ownBlock = some k ∨ q.tv.ownBlock = some k := by
  simp [KPtr.all]

theorem KerMem.lt {w : World} {b : Nat} {K : KV} {T : List DM} {q : KPtr} (h : KerMem w b K T q) : ∀ k, k ∈ q.all b → k < w.heap.size := by
  intro k hk
  rcases KPtr.mem.1 hk with rfl | hk | hk | hk | hk | hk | hk | hk
  · exact heap_lt h.blk
  · exact h.ar.lt k hk
  · exact h.tab.lt k hk
  · exact (h.us.lt k hk).2
  · exact (h.hs.lt k hk).2
  · exact (h.os.lt k hk).2
  · exact (h.ls.lt k hk).2
  · exact (h.ts.lt k hk).2

theorem KerMem.keep {w w' : World} {b : Nat} {K : KV} {T : List DM} {q : KPtr} (h : KerMem w b K T q) (hk : ∀ k, k ∈ q.all b → w'.heap[k]? = w.heap[k]?) : KerMem w' b K T q :=
  ⟨by rw [hk b (KPtr.mem.2 (.inl rfl))]; exact h.blk, h.ar.keep fun k hm => hk k (KPtr.mem.2 (.inr (.inl hm))), h.tab.keep fun k hm => hk k (KPtr.mem.2 (.inr (.inr (.inl hm)))),
   row_keep h.us fun k hm => hk k (KPtr.mem.2 (.inr (.inr (.inr (.inl hm))))), row_keep h.hs fun k hm => hk k (KPtr.mem.2 (.inr (.inr (.inr (.inr (.inl hm)))))),
   row_keep h.os fun k hm => hk k (KPtr.mem.2 (.inr (.inr (.inr (.inr (.inr (.inl hm))))))), row_keep h.ls fun k hm => hk k (KPtr.mem.2 (.inr (.inr (.inr (.inr (.inr (.inr (.inl hm)))))))),
   row_keep h.ts fun k hm => hk k (KPtr.mem.2 (.inr (.inr (.inr (.inr (.inr (.inr (.inr hm)))))))), h.ob, h.oa, h.ot, h.ou, h.oh, h.oo, h.ol, h.ox⟩

theorem KerMem.upd {w w' : World} {b : Nat} {K : KV} {T : List DM} {q : KPtr} {S : List Nat} (h : KerMem w b K T q) (u : Upd S w w') (hd : ∀ k, k ∈ q.all b → k ∉ S) : KerMem w' b K T q :=
  h.keep fun k hk => u.block k (h.lt k hk) (hd k hk)

/-- a new tag for new blocks -/
def retag (q : KPtr) (n c : Nat) : Nat → Nat := fun k => if n ≤ k then c else q.o k

theorem retag_old {q : KPtr} {n c k : Nat} (h : k < n) : retag q n c k = q.o k := by unfold retag; rw [if_neg (by omega)]
theorem retag_sub {q : KPtr} {n c k : Nat} {F : List Nat} (hF : ∀ k, k ∈ F → q.o k = c) (h : k ∈ F ∨ n ≤ k) : retag q n c k = c := by
  unfold retag
  split
  · rfl
  · rcases h with h | h
    · exact hF k h
    · omega

/-- The arena has turned. -/
theorem KerMem.arena {w w' : World} {b : Nat} {K : KV} {T : List DM} {q : KPtr} {A' : ArenaV} {F' : List Nat} (h : KerMem w b K T q) (ha : ArenaAt w' q.a A' F') (hu : Upd q.FA w w') (hs : Sub q.FA w F') :
    KerMem w' b { K with A := A' } T { q with FA := F', o := retag q w.heap.size 1 } := by
  have hne : ∀ {k c}, q.o k = c → c ≠ 1 → k ∉ q.FA := fun {k c} hk hc hm => hc (hk ▸ h.oa k hm)
  have hb := heap_lt h.blk
  refine ⟨by rw [hu.block b hb (hne h.ob (by omega))]; exact h.blk, ha, h.tab.upd hu fun k hk => hne (h.ot k hk) (by omega),
    row_keep h.us fun k hk => hu.block k (h.us.lt k hk).2 (hne (h.ou k hk) (by omega)), row_keep h.hs fun k hk => hu.block k (h.hs.lt k hk).2 (hne (h.oh k hk) (by omega)),
    row_keep h.os fun k hk => hu.block k (h.os.lt k hk).2 (hne (h.oo k hk) (by omega)), row_keep h.ls fun k hk => hu.block k (h.ls.lt k hk).2 (hne (h.ol k hk) (by omega)),
    row_keep h.ts fun k hk => hu.block k (h.ts.lt k hk).2 (hne (h.ox k hk) (by omega)), ?_, ?_, ?_, ?_, ?_, ?_, ?_, ?_⟩
  · show retag q _ 1 b = 0
    rw [retag_old hb]; exact h.ob
  · intro k hk; exact retag_sub h.oa (hs k hk)
  · intro k hk; show retag q _ 1 k = 2; rw [retag_old (h.tab.lt k hk)]; exact h.ot k hk
  · intro k hk; show retag q _ 1 k = 3; rw [retag_old (h.us.lt k hk).2]; exact h.ou k hk
  · intro k hk; show retag q _ 1 k = 4; rw [retag_old (h.hs.lt k hk).2]; exact h.oh k hk
  · intro k hk; show retag q _ 1 k = 5; rw [retag_old (h.os.lt k hk).2]; exact h.oo k hk
  · intro k hk; show retag q _ 1 k = 6; rw [retag_old (h.ls.lt k hk).2]; exact h.ol k hk
  · intro k hk; show retag q _ 1 k = 7; rw [retag_old (h.ts.lt k hk).2]; exact h.ox k hk

/-- The table has turned. -/
theorem KerMem.table {w w' : World} {b : Nat} {K : KV} {T T' : List DM} {q : KPtr} (h : KerMem w b K T q) (ha : TabAt w' q.t T' q.FT) (hu : Upd q.FT w w') : KerMem w' b K T' q := by
  have hne : ∀ {k c}, q.o k = c → c ≠ 2 → k ∉ q.FT := fun {k c} hk hc hm => hc (hk ▸ h.ot k hm)
  have hb := heap_lt h.blk
  exact ⟨by rw [hu.block b hb (hne h.ob (by omega))]; exact h.blk, h.ar.upd hu fun k hk => hne (h.oa k hk) (by omega), ha,
    row_keep h.us fun k hk => hu.block k (h.us.lt k hk).2 (hne (h.ou k hk) (by omega)), row_keep h.hs fun k hk => hu.block k (h.hs.lt k hk).2 (hne (h.oh k hk) (by omega)),
    row_keep h.os fun k hk => hu.block k (h.os.lt k hk).2 (hne (h.oo k hk) (by omega)), row_keep h.ls fun k hk => hu.block k (h.ls.lt k hk).2 (hne (h.ol k hk) (by omega)),
    row_keep h.ts fun k hk => hu.block k (h.ts.lt k hk).2 (hne (h.ox k hk) (by omega)), h.ob, h.oa, h.ot, h.ou, h.oh, h.oo, h.ol, h.ox⟩

theorem flat32_set (l : List Nat) (r n : Nat) : (flat32 l).set r (.int .i32 n) = flat32 (l.set r n) := by simp [flat32, List.map_set]

/-- How often a node is used is written down. -/
theorem KerMem.setUse {w : World} {b g n' c r n : Nat} {K : KV} {T : List DM} {q : KPtr} (h : KerMem w b K T q) (hq : q.uv = .slice (some ⟨g, 0, none⟩) n' c) (hr : r < K.uses.length) :
    KerMem (w.setCell ⟨g, r, none⟩ (.int .i32 n)) b { K with uses := K.uses.set r n } T q := by
  have hg : q.o g = 3 := h.ou g (by rw [hq]; rfl)
  have hne : ∀ {k c}, q.o k = c → c ≠ 3 → k ≠ g := fun {k c} hk hc hm => hc (by rw [← hk, hm, hg])
  have hk : ∀ {k c}, q.o k = c → c ≠ 3 → (w.setCell ⟨g, r, none⟩ (.int .i32 n)).heap[k]? = w.heap[k]? := fun hk hc => heap_set_ne (hne hk hc)
  refine ⟨by rw [hk h.ob (by omega)]; exact h.blk, h.ar.keep fun k hm => hk (h.oa k hm) (by omega), h.tab.keep fun k hm => hk (h.ot k hm) (by omega), ?_,
    row_keep h.hs fun k hm => hk (h.oh k hm) (by omega), row_keep h.os fun k hm => hk (h.oo k hm) (by omega), row_keep h.ls fun k hm => hk (h.ol k hm) (by omega), row_keep h.ts fun k hm => hk (h.ox k hm) (by omega),
    h.ob, h.oa, h.ot, h.ou, h.oh, h.oo, h.ol, h.ox⟩
  have hu := h.us
  rw [hq] at hu ⊢
  have := row_set hu (j := r) (by omega) (.int .i32 n)
  rw [flat32_set] at this
  simpa using this

/-- How often a node is held is written down. -/
theorem KerMem.setHold {w : World} {b g n' c r n : Nat} {K : KV} {T : List DM} {q : KPtr} (h : KerMem w b K T q) (hq : q.hv = .slice (some ⟨g, 0, none⟩) n' c) (hr : r < K.holds.length) :
    KerMem (w.setCell ⟨g, r, none⟩ (.int .i32 n)) b { K with holds := K.holds.set r n } T q := by
  have hg : q.o g = 4 := h.oh g (by rw [hq]; rfl)
  have hne : ∀ {k c}, q.o k = c → c ≠ 4 → k ≠ g := fun {k c} hk hc hm => hc (by rw [← hk, hm, hg])
  have hk : ∀ {k c}, q.o k = c → c ≠ 4 → (w.setCell ⟨g, r, none⟩ (.int .i32 n)).heap[k]? = w.heap[k]? := fun hk hc => heap_set_ne (hne hk hc)
  refine ⟨by rw [hk h.ob (by omega)]; exact h.blk, h.ar.keep fun k hm => hk (h.oa k hm) (by omega), h.tab.keep fun k hm => hk (h.ot k hm) (by omega), row_keep h.us fun k hm => hk (h.ou k hm) (by omega), ?_,
    row_keep h.os fun k hm => hk (h.oo k hm) (by omega), row_keep h.ls fun k hm => hk (h.ol k hm) (by omega), row_keep h.ts fun k hm => hk (h.ox k hm) (by omega),
    h.ob, h.oa, h.ot, h.ou, h.oh, h.oo, h.ol, h.ox⟩
  have hu := h.hs
  rw [hq] at hu ⊢
  have := row_set hu (j := r) (by omega) (.int .i32 n)
  rw [flat32_set] at this
  simpa using this

/-- The trail is over. -/
theorem KerMem.noTrail {w : World} {b : Nat} {K : KV} {T : List DM} {q : KPtr} (h : KerMem w b K T q) :
    KerMem (w.setCell ⟨b, 7, none⟩ (.slice none 0 0)) b { K with trail := [] } T { q with tv := .slice none 0 0 } := by
  have hne : ∀ {k c}, q.o k = c → c ≠ 0 → k ≠ b := fun {k c} hk hc hm => hc (by rw [← hk, hm, h.ob])
  have hk : ∀ {k c}, q.o k = c → c ≠ 0 → (w.setCell ⟨b, 7, none⟩ (.slice none 0 0)).heap[k]? = w.heap[k]? := fun hk hc => heap_set_ne (hne hk hc)
  refine ⟨by rw [heap_set_eq h.blk]; rfl, h.ar.keep fun k hm => hk (h.oa k hm) (by omega), h.tab.keep fun k hm => hk (h.ot k hm) (by omega), row_keep h.us fun k hm => hk (h.ou k hm) (by omega),
    row_keep h.hs fun k hm => hk (h.oh k hm) (by omega), row_keep h.os fun k hm => hk (h.oo k hm) (by omega), row_keep h.ls fun k hm => hk (h.ol k hm) (by omega), World.ownsRow_nil _ _ _ _,
    h.ob, h.oa, h.ot, h.ou, h.oh, h.oo, h.ol, fun k hk => by simp [Value.ownBlock] at hk⟩

set_option maxRecDepth 100000 in
set_option maxHeartbeats 400000 in
theorem live_spec (b r : Nat) (K : KV) (T : List DM) (q : KPtr) (w : World) (h : KerMem w b K T q) (hr : r ≤ 4294967295) :
    Calls Try.prog 43 #[.pointer (some ⟨b, 0, none⟩), .int .u32 r] w fun e w' => e = .returned (.bool (K.A.tk r)) ∧ Upd [] w w' := by
  have hc0 : w.cell? ⟨b, 0, none⟩ = some (.pointer (some ⟨q.a, 0, none⟩)) := cell_at h.blk rfl
  have HA := Lib.hid h.ar
  clear h
  cases ht : K.A.tk r with
  | false =>
    have HT := Lib.hid ht
    clear ht
    go_enter Try.func43, Try.ntmps43
    go_wp2_with fail
    refine (get_no q.a q.FA r K.A w HA.out hr HT.out).mono ?_
    rintro e w1 ⟨rfl, hu⟩
    have HU := Lib.hid hu
    clear hu
    go_wp2_with fail
    go_ret
    exact ⟨rfl, HU.out.alloc _⟩
  | true =>
    obtain ⟨p, hp, hpt⟩ := ArenaV.tk_iff.1 ht
    have HP := Lib.hid hp
    have HT := Lib.hid hpt
    clear ht hp hpt
    go_enter Try.func43, Try.ntmps43
    go_wp2_with fail
    refine (get_yes q.a q.FA r K.A p w HA.out hr HP.out HT.out).mono ?_
    rintro e w1 ⟨rfl, hu⟩
    have HU := Lib.hid hu
    clear hu
    go_wp2_with fail
    go_ret
    exact ⟨rfl, HU.out.alloc _⟩

theorem box3 {w1 : World} {B : Nat} {x y z : Value} {t : TypeId} (h : w1.heap[B]? = some (.cells #[x, y, z] t (0, 0))) (x' y' z' : Value) (o : Obj) :
    ((((w1.setCell ⟨B, 0, none⟩ x').setCell ⟨B, 1, none⟩ y').setCell ⟨B, 2, none⟩ z').alloc o).cell? ⟨B, 0, none⟩ = some x' ∧
    ((((w1.setCell ⟨B, 0, none⟩ x').setCell ⟨B, 1, none⟩ y').setCell ⟨B, 2, none⟩ z').alloc o).cell? ⟨B, 1, none⟩ = some y' ∧
    ((((w1.setCell ⟨B, 0, none⟩ x').setCell ⟨B, 1, none⟩ y').setCell ⟨B, 2, none⟩ z').alloc o).cell? ⟨B, 2, none⟩ = some z' := by
  have e := heap_set_eq (j := 2) (heap_set_eq (j := 1) (heap_set_eq (j := 0) h x') y') z'
  have e2 := (heap_alloc_old _ o (heap_lt e)).trans e
  exact ⟨cell_at e2 rfl, cell_at e2 rfl, cell_at e2 rfl⟩

set_option maxRecDepth 100000 in
set_option maxHeartbeats 400000 in
theorem node_spec (b r : Nat) (K : KV) (T : List DM) (q : KPtr) (p : PlaceV) (w : World) (h : KerMem w b K T q) (hr : r ≤ 4294967295) (hp : K.A.list[r]? = some p) (hpt : p.taken = true) :
    Calls Try.prog 44 #[.pointer (some ⟨b, 0, none⟩), .int .u32 r] w fun e w' => e = .returned (.agg #[.int .i64 p.var, .int .u32 p.lo, .int .u32 p.hi]) ∧ Upd [] w w' := by
  have hc0 : w.cell? ⟨b, 0, none⟩ = some (.pointer (some ⟨q.a, 0, none⟩)) := cell_at h.blk rfl
  have HA := Lib.hid h.ar
  have hb := heap_lt h.blk
  have HP := Lib.hid hp
  have HT := Lib.hid hpt
  clear h hp hpt
  go_enter Try.func44, Try.ntmps44
  go_wp2_with fail
  refine (get_yes q.a q.FA r K.A p _ (HA.out.upd ((Upd.refl [] w).alloc _) (by simp)) hr HP.out HT.out).mono ?_
  rintro e w1 ⟨rfl, hu⟩
  have hbx : w1.heap[w.heap.size]? = some (.cells #[.int .i64 0, .int .u32 0, .int .u32 0] 55 (0, 0)) := (hu.block w.heap.size (by simp) (by simp)).trans (heap_alloc_new w _)
  have b0 : w1.cell? ⟨w.heap.size, 0, none⟩ = some (.int .i64 0) := cell_at hbx rfl
  have b1 : w1.cell? ⟨w.heap.size, 1, none⟩ = some (.int .u32 0) := cell_at hbx rfl
  have b2 : w1.cell? ⟨w.heap.size, 2, none⟩ = some (.int .u32 0) := cell_at hbx rfl
  have f0 := frozen_at 0 hbx
  have f1 := frozen_at 1 hbx
  have f2 := frozen_at 2 hbx
  have hbw := heap_lt hbx
  have HX := Lib.hid hbx
  have HU : Hid (Upd [] w w1) := ((Upd.refl [] w).alloc _).trans (hu.mono (by simp))
  clear hu hbx
  go_wp2_with fail
  obtain ⟨r0, r1, r2⟩ := box3 HX.out (.int .i64 p.var) (.int .u32 p.lo) (.int .u32 p.hi) (.cells #[.int .i64 p.var, .int .u32 p.lo, .int .u32 p.hi] 55 (0, 0))
  refine bodyPost_ret (v := .agg #[.int .i64 p.var, .int .u32 p.lo, .int .u32 p.hi]) (by simp [results, Try.results44, go_sem, r0, r1, r2]) rfl ⟨rfl, ?_⟩
  exact (((HU.out.setCell (.inr (Nat.le_refl _)) _).setCell (.inr (Nat.le_refl _)) _).setCell (.inr (Nat.le_refl _)) _).alloc _

def KV.room (K : KV) (more : Int) : Bool := decide ((K.A.used : Int) + more ≤ (K.A.places : Int))

set_option maxRecDepth 100000 in
set_option maxHeartbeats 400000 in
theorem room_spec (b : Nat) (more : Int) (K : KV) (T : List DM) (q : KPtr) (w : World) (h : KerMem w b K T q) (hm0 : 0 ≤ more) (hm : more ≤ 1048576) :
    Calls Try.prog 52 #[.pointer (some ⟨b, 0, none⟩), .int .i64 more] w fun e w' => e = .returned (.bool (K.room more)) ∧ Upd [] w w' := by
  have hc0 : w.cell? ⟨b, 0, none⟩ = some (.pointer (some ⟨q.a, 0, none⟩)) := cell_at h.blk rfl
  have HA := Lib.hid h.ar
  have h1 := h.ar.ok.us
  have h2 := h.ar.ok.lp
  have h3 := h.ar.ok.pm
  have hu : K.A.used ≤ 1048576 := by omega
  have e1 : IntKind.i64.wrap ((K.A.used : Int) + more) = (K.A.used : Int) + more := IntWalk.i64_in _ (by omega)
  have hR : Hid (K.room more = decide ((K.A.used : Int) + more ≤ (K.A.places : Int))) := rfl
  clear h h1 h2
  go_enter Try.func52, Try.ntmps52
  go_wp2_with fail
  go_quiet ((first | (go_at_call 38; exact Calls.quiet_of_same (((used_spec q.a q.FA K.A _ (HA.out.upd ((Upd.refl [] w).drewN _) (by simp))).mono fun _ _ ⟨a, b⟩ => ⟨a, b.symm⟩))) | (go_at_call 68; exact Calls.quiet_of_same (((places_spec q.a q.FA K.A _ (HA.out.upd ((Upd.refl [] w).drewN _) (by simp))).mono fun _ _ ⟨a, b⟩ => ⟨a, b.symm⟩)))))
  go_wp2_with fail
  go_ret
  exact ⟨by rw [hR.out]; rfl, (Upd.refl _ _).drewN _⟩

theorem KerMem.useCell {w : World} {b r : Nat} {K : KV} {T : List DM} {q : KPtr} (h : KerMem w b K T q) (hr : r < K.uses.length) :
    ∃ g c, q.uv = .slice (some ⟨g, 0, none⟩) K.uses.length c ∧ w.cell? ⟨b, 2, none⟩ = some (.slice (some ⟨g, 0, none⟩) K.uses.length c) ∧ w.cell? ⟨g, r, none⟩ = some (.int .i32 (K.use r)) ∧ w.frozen? ⟨g, r, none⟩ = false ∧ g ∈ q.all b := by
  have hu := h.us
  obtain ⟨g, c, hq, _, _⟩ := hu.form (by omega)
  refine ⟨g, c, hq, by rw [← hq]; exact cell_at h.blk rfl, ?_, ?_, KPtr.mem.2 (.inr (.inr (.inr (.inl (by rw [hq]; rfl)))))⟩
  · rw [hq] at hu
    refine row_cell hu ?_
    simp [flat32, KV.use, hr]
  · rw [hq] at hu; exact row_frozen hu r

theorem KerMem.holdCell {w : World} {b r : Nat} {K : KV} {T : List DM} {q : KPtr} (h : KerMem w b K T q) (hr : r < K.holds.length) :
    ∃ g c, q.hv = .slice (some ⟨g, 0, none⟩) K.holds.length c ∧ w.cell? ⟨b, 3, none⟩ = some (.slice (some ⟨g, 0, none⟩) K.holds.length c) ∧ w.cell? ⟨g, r, none⟩ = some (.int .i32 (K.hold r)) ∧ w.frozen? ⟨g, r, none⟩ = false ∧ g ∈ q.all b := by
  have hu := h.hs
  obtain ⟨g, c, hq, _, _⟩ := hu.form (by omega)
  refine ⟨g, c, hq, by rw [← hq]; exact cell_at h.blk rfl, ?_, ?_, KPtr.mem.2 (.inr (.inr (.inr (.inr (.inl (by rw [hq]; rfl))))))⟩
  · rw [hq] at hu
    refine row_cell hu ?_
    simp [flat32, KV.hold, hr]
  · rw [hq] at hu; exact row_frozen hu r

set_option maxRecDepth 100000 in
set_option maxHeartbeats 400000 in
theorem use_spec (b r : Nat) (K : KV) (T : List DM) (q : KPtr) (w : World) (h : KerMem w b K T q) (h2 : 2 ≤ r) (hr : r < K.uses.length) (hb : K.use r + 1 ≤ 2147483647) (hr32 : r ≤ 4294967295) :
    Calls Try.prog 70 #[.pointer (some ⟨b, 0, none⟩), .int .u32 r] w fun e w' => e = .returned (.tuple #[]) ∧ KerMem w' b (K.useK r) T q ∧ Upd (q.all b) w w' := by
  obtain ⟨g, c, hq, c2, cu, fu, hg⟩ := h.useCell hr
  have hE := And.intro (h.setUse (n := K.use r + 1) hq hr) ((Upd.refl (q.all b) w).setCell (p := ⟨g, r, none⟩) (.inl hg) (.int .i32 ((K.use r + 1 : Nat))))
  simp only [Int.natCast_add, Int.cast_ofNat_Int] at hE
  have HE := Lib.hid hE
  have hd : (1 : Int) < (r : Int) := by omega
  have hrl : (r : Int) < (K.uses.length : Int) := by omega
  have hus : K.uses.length ≤ 9223372036854775807 := by have := (row_block (hq ▸ h.us)).2; unfold maxLen at this; omega
  clear h hq hE
  go_enter Try.func70, Try.ntmps70
  go_wp2_with fail
  go_end0
  exact ⟨rfl, HE.out⟩

set_option maxRecDepth 100000 in
set_option maxHeartbeats 400000 in
theorem use_const (b r : Nat) (w : World) (h2 : r < 2) :
    Calls Try.prog 70 #[.pointer (some ⟨b, 0, none⟩), .int .u32 r] w fun e w' => e = .returned (.tuple #[]) ∧ w = w' := by
  have hd : decide ((1 : Int) < (r : Int)) = false := by simp; omega
  have hd2 : decide (1 < r) = false := by simp; omega
  go_enter Try.func70, Try.ntmps70
  go_wp2_with fail
  go_end0
  exact ⟨rfl, rfl⟩
end Go.Proofs.Ytnenhecnkidnpaa
