/- Package count: what goes through the nodes below a function. -/
import Derived.Test.YtnenhecnkidnpaaKH
import Derived.Test.YtnenhecnkidnpaaCN
import Derived.Deep.QuietTactic
namespace Go.Proofs.Ytnenhecnkidnpaa
open Go.RowKit Go.Maps Go.ChangeMaps Go.WideShapes

set_option maxRecDepth 100000 in
theorem cconst_spec (r : Nat) (w : World) : Calls Try.prog 63 #[.int .u32 r] w fun e w' => e = .returned (.bool (decide (r < 2))) ∧ w' = w := by
  by_cases h0 : r = 0
  · subst h0
    go_enter Try.func63, Try.ntmps63
    go_wp2_with fail
    go_ret
    exact ⟨rfl, rfl⟩
  · have hb0 : ((r : Int) == 0) = false := by simp; omega
    have hb2 : ¬ (r = 0) := h0
    have HD : Hid (((r : Int) == 1) = decide (r < 2)) := by
      show ((r : Int) == 1) = decide (r < 2)
      rw [Bool.eq_iff_iff]; simp; omega
    go_enter Try.func63, Try.ntmps63
    go_wp2_with fail
    go_ret
    exact ⟨by rw [← HD.out]; rfl, rfl⟩

set_option maxRecDepth 100000 in
theorem cnode_spec (b r : Nat) (K : KV) (T : List DM) (q : KPtr) (p : PlaceV) (w : World) (h : KerMem w b K T q) (hr : r ≤ 4294967295) (hp : K.A.list[r]? = some p) (hpt : p.taken = true) :
    Calls Try.prog 64 #[.pointer (some ⟨b, 0, none⟩), .int .u32 r] w fun e w' => e = .returned (.agg #[.int .i64 p.var, .int .u32 p.lo, .int .u32 p.hi]) ∧ Upd [] w w' := by
  have HM := Lib.hid h
  have HP := Lib.hid (And.intro hp hpt)
  clear h hp hpt
  go_enter Try.func64, Try.ntmps64
  go_wp2_with fail
  refine (nodeof_yes b r K T q p _ (HM.out.upd ((Upd.refl [] w).alloc _) (by simp)) hr HP.out.1 HP.out.2).mono ?_
  rintro e w1 ⟨rfl, hu⟩
  have hbx : w1.heap[w.heap.size]? = some (.cells #[.int .i64 0, .int .u32 0, .int .u32 0] 55 (0, 0)) := (hu.block w.heap.size (by simp) (by simp)).trans (heap_alloc_new w _)
  have hb2 := heap_alloc_old w1 (.cells #[.int .i64 p.var, .int .u32 p.lo, .int .u32 p.hi] 55 (0, 0)) (heap_lt hbx)
  have hbx2 := hb2.trans hbx
  have hn := heap_alloc_new w1 (.cells #[.int .i64 p.var, .int .u32 p.lo, .int .u32 p.hi] 55 (0, 0))
  have y0 := cell_at (j := 0) hn rfl
  have y1 := cell_at (j := 1) hn rfl
  have y2 := cell_at (j := 2) hn rfl
  have b0 := cell_at (j := 0) hbx rfl
  have b1 := cell_at (j := 1) hbx rfl
  have b2 := cell_at (j := 2) hbx rfl
  have f0 := frozen_at 0 hbx
  have f1 := frozen_at 1 hbx
  have f2 := frozen_at 2 hbx
  have hbw := heap_lt hbx
  have HX := Lib.hid hbx
  have HU : Hid (Upd [] w w1) := ((Upd.refl [] w).alloc _).trans (hu.mono (by simp))
  clear hu hbx hb2 hbx2 hn
  go_wp2_with fail
  obtain ⟨r0, r1, r2⟩ := box3 HX.out (.int .i64 p.var) (.int .u32 p.lo) (.int .u32 p.hi) (.cells #[.int .i64 p.var, .int .u32 p.lo, .int .u32 p.hi] 55 (0, 0))
  refine bodyPost_ret (v := .agg #[.int .i64 p.var, .int .u32 p.lo, .int .u32 p.hi]) (by simp [results, Try.results64, go_sem, r0, r1, r2]) rfl ⟨rfl, ?_⟩
  exact (((HU.out.setCell (.inr (Nat.le_refl _)) _).setCell (.inr (Nat.le_refl _)) _).setCell (.inr (Nat.le_refl _)) _).alloc _

/-- the bit of a variable, as the code reckons it -/
def supStep (s : Int) (n : Nat) : Int := bits BinOp.or IntKind.u64 s (IntKind.u64.wrap (2 ^ n))

set_option maxRecDepth 100000 in
theorem supF_spec (sb : Nat) (s : Int) (n lo hi : Nat) (w : World) (hn : n < 64) (hb : w.heap[sb]? = some (.cells #[.int .u64 s] 59 (0, 0))) :
    Calls Try.prog 47 #[.agg #[.int .i64 n, .int .u32 lo, .int .u32 hi], .pointer (some ⟨sb, 0, none⟩)] w fun e w' => e = .returned (.tuple #[]) ∧ w'.heap[sb]? = some (.cells #[.int .u64 (supStep s n)] 59 (0, 0)) ∧ Upd [sb] w w' := by
  have hlt := heap_lt hb
  have c0 := cell_at (j := 0) hb rfl
  have f0 := frozen_at 0 hb
  have hn64 : (n : Int) < 64 := by omega
  have hbx := heap_alloc_new w (.cells #[.int .i64 (n : Int), .int .u32 lo, .int .u32 hi] 55 (0, 0))
  have x0 := cell_at (j := 0) hbx rfl
  have e1 : (w.alloc (.cells #[.int .i64 (n : Int), .int .u32 lo, .int .u32 hi] 55 (0, 0))).heap[sb]? = _ := (heap_alloc_old _ _ hlt).trans hb
  have c1 := cell_at (j := 0) e1 rfl
  have f1 := frozen_at 0 e1
  have HB := Lib.hid (And.intro hb e1)
  clear hb hbx e1
  go_enter Try.func47, Try.ntmps47
  go_wp2_with fail
  go_region
  go_wp2_with fail
  go_end0
  refine ⟨rfl, ?_, ?_⟩
  · have e := heap_set_eq (j := 0) HB.out.1 (.int .u64 (supStep s n))
    exact (heap_alloc_old _ _ (heap_lt e)).trans e
  · exact (((Upd.refl [sb] w).setCell (p := ⟨sb, 0, none⟩) (.inl (by simp)) _).alloc _).drew

/-! ### the walk below a function -/

theorem refKeyed : Keyed Try.prog 27 := int_keyed Try.underlying27
theorem zeroInt (w : World) : (zeroValue 3).run Try.prog w = .ok (.int .i64 0) w := by kernel_rfl

/-- what a function that is called with each node does to its state -/
def CbOk (fl : Nat) (caps : Array Value) (sb : Nat) (ty : TypeId) (enc : Int → Value) (step : Int → Nat → Int) : Prop :=
  ∀ (w : World) (s : Int) (n lo hi : Nat), n < 64 → w.heap[sb]? = some (.cells #[enc s] ty (0, 0)) → Calls Try.prog fl (#[.agg #[.int .i64 n, .int .u32 lo, .int .u32 hi]] ++ caps) w fun e w' =>
    e = .returned (.tuple #[]) ∧ w'.heap[sb]? = some (.cells #[enc (step s n)] ty (0, 0)) ∧ Upd [sb] w w'

theorem cb_support (sb : Nat) : CbOk 47 #[.pointer (some ⟨sb, 0, none⟩)] sb 59 (fun s => .int .u64 s) supStep :=
  fun w s n lo hi hn hb => supF_spec sb s n lo hi w hn hb

/-- what has been seen, as a map -/
structure SeenOk (V : List Nat) (D : DM) : Prop where
  im : IsMap D
  has : ∀ r : Nat, r ≤ 4294967295 → (Maps.has D (.int .u32 r) = true ↔ r ∈ V)
  at_ : ∀ r : Nat, r ≤ 4294967295 → Maps.has D (.int .u32 r) = true → ∀ z, D.atKey (.int .u32 r) z = .lit (.int .i64 1)
  dom : ∀ k, Maps.has D k = true → ∃ r : Nat, k = .int .u32 r ∧ r < 1048576

theorem SeenOk.nil : SeenOk [] (.map []) := ⟨isMap_empty, fun r _ => by simp [Maps.has], fun r _ h => by simp [Maps.has] at h, fun k h => by simp [Maps.has] at h⟩

theorem SeenOk.put {V : List Nat} {D : DM} {r : Nat} (h : SeenOk V D) (hr : r < 1048576) : SeenOk (V ++ [r]) (D.put (.int .u32 r) (.lit (.int .i64 1))) := by
  have hl : WideAt.IsKeyLit (.int .u32 (r : Int)) := trivial
  have inj : ∀ x : Nat, x ≠ r → (Lit.int .u32 (x : Int)) ≠ .int .u32 (r : Int) := fun x hx e => hx (by simp at e; omega)
  refine ⟨h.im.put _ _, fun x hx => ?_, fun x hx hh z => ?_, fun k hk => ?_⟩
  · by_cases e : x = r
    · subst e; simp [has_put_same h.im hl]
    · rw [has_put_other (inj x e), h.has x hx]; simp [e]
  · by_cases e : x = r
    · subst e; exact atKey_put_same h.im hl _ z
    · rw [has_put_other (inj x e)] at hh
      rw [atKey_put_other (inj x e)]; exact h.at_ x hx hh z
  · by_cases e : k = .int .u32 (r : Int)
    · exact ⟨r, e, hr⟩
    · rw [has_put_other e] at hk; exact h.dom k hk

theorem seen_size {V : List Nat} {D : DM} (h : SeenOk V D) (hc : Maps.Canon D) (ht : Tidy D) : Maps.size D < maxLen := by
  have := size_le_keys hc (ks := (List.range 1048576).map fun (r : Nat) => Lit.int .u32 (r : Int)) (fun k hk => by
    obtain ⟨r, rfl, hr⟩ := h.dom k hk
    exact List.mem_map.2 ⟨r, List.mem_range.2 hr, rfl⟩) ht
  simp only [List.length_map, List.length_range] at this
  unfold maxLen; omega

/-- the walk's memory -/
structure WalkM (w : World) (b ck ckk cf cw mb sb fl : Nat) (caps : Array Value) (ty : TypeId) (enc : Int → Value) (K : KV) (T : List DM) (q : KPtr) (D : DM) (s : Int) : Prop where
  ker : KerIn w b K T q
  bk : w.heap[ck]? = some (.cells #[.map (some mb)] 51 (0, 0))
  bkk : w.heap[ckk]? = some (.cells #[.pointer (some ⟨b, 0, none⟩)] 38 (0, 0))
  bf : w.heap[cf]? = some (.cells #[.func (Fn.func fl) #[] caps] 91 (0, 0))
  bw : w.heap[cw]? = some (.cells #[.func (Fn.func 62) #[] #[.pointer (some ⟨ck, 0, none⟩), .pointer (some ⟨ckk, 0, none⟩), .pointer (some ⟨cf, 0, none⟩), .pointer (some ⟨cw, 0, none⟩)]] 115 (0, 0))
  bs : w.heap[sb]? = some (.cells #[enc s] ty (0, 0))
  map : w.ownsMap Try.prog 27 (plainElem Try.prog 3) mb (Maps.size D) D
  dq : ∀ k, k ∈ q.all b → k ≠ ck ∧ k ≠ ckk ∧ k ≠ cf ∧ k ≠ cw ∧ k ≠ mb ∧ k ≠ sb
  dm : mb ≠ ck ∧ mb ≠ ckk ∧ mb ≠ cf ∧ mb ≠ cw ∧ mb ≠ sb
  ds : sb ≠ ck ∧ sb ≠ ckk ∧ sb ≠ cf ∧ sb ≠ cw

theorem WalkM.keep {w w' : World} {b ck ckk cf cw mb sb fl : Nat} {caps : Array Value} {ty : TypeId} {enc : Int → Value} {K : KV} {T : List DM} {q : KPtr} {D : DM} {s : Int} (h : WalkM w b ck ckk cf cw mb sb fl caps ty enc K T q D s) (u : Upd [] w w') :
    WalkM w' b ck ckk cf cw mb sb fl caps ty enc K T q D s := by
  have e : ∀ {k : Nat} {o : Obj}, w.heap[k]? = some o → w'.heap[k]? = some o := fun {k o} hk => by rw [u.block k (heap_lt hk) (by simp)]; exact hk
  exact ⟨h.ker.upd u (by simp), e h.bk, e h.bkk, e h.bf, e h.bw, e h.bs, own_keep h.map (u.block _ h.map.lt (by simp)), h.dq, h.dm, h.ds⟩

theorem WalkM.state {w w' : World} {b ck ckk cf cw mb sb fl : Nat} {caps : Array Value} {ty : TypeId} {enc : Int → Value} {K : KV} {T : List DM} {q : KPtr} {D : DM} {s s' : Int} (h : WalkM w b ck ckk cf cw mb sb fl caps ty enc K T q D s) (u : Upd [sb] w w') (hs : w'.heap[sb]? = some (.cells #[enc s'] ty (0, 0))) :
    WalkM w' b ck ckk cf cw mb sb fl caps ty enc K T q D s' := by
  have e : ∀ {k : Nat} {o : Obj}, sb ≠ k → w.heap[k]? = some o → w'.heap[k]? = some o := fun {k o} hn hk => by rw [u.block k (heap_lt hk) (by simp; exact Ne.symm hn)]; exact hk
  exact ⟨h.ker.upd u (fun k hk hm => by simp at hm; exact (h.dq k hk).2.2.2.2.2 hm), e h.ds.1 h.bk, e h.ds.2.1 h.bkk, e h.ds.2.2.1 h.bf, e h.ds.2.2.2 h.bw, hs, own_keep h.map (u.block _ h.map.lt (by simp; exact h.dm.2.2.2.2)), h.dq, h.dm, h.ds⟩

theorem WalkM.seen {w w' : World} {b ck ckk cf cw mb sb fl : Nat} {caps : Array Value} {ty : TypeId} {enc : Int → Value} {K : KV} {T : List DM} {q : KPtr} {D D' : DM} {s : Int} (h : WalkM w b ck ckk cf cw mb sb fl caps ty enc K T q D s) (u : Upd [mb] w w') (hm : w'.ownsMap Try.prog 27 (plainElem Try.prog 3) mb (Maps.size D') D') :
    WalkM w' b ck ckk cf cw mb sb fl caps ty enc K T q D' s := by
  have e : ∀ {k : Nat} {o : Obj}, mb ≠ k → w.heap[k]? = some o → w'.heap[k]? = some o := fun {k o} hn hk => by rw [u.block k (heap_lt hk) (by simp; exact Ne.symm hn)]; exact hk
  exact ⟨h.ker.upd u (fun k hk hm => by simp at hm; exact (h.dq k hk).2.2.2.2.1 hm), e h.dm.1 h.bk, e h.dm.2.1 h.bkk, e h.dm.2.2.1 h.bf, e h.dm.2.2.2.1 h.bw, e h.dm.2.2.2.2 h.bs, hm, h.dq, h.dm, h.ds⟩

/-- what a walk from r adds to what was seen -/
structure WalkR (K : KV) (V : List Nat) (r : Nat) (N : List Nat) : Prop where
  nd : (V ++ N).Nodup
  has : 2 ≤ r → r ∈ V ++ N
  two : ∀ x, x ∈ N → 2 ≤ x ∧ K.A.tk x = true
  from_ : ∀ x, x ∈ N → K.den x = K.den x ∧ (x = r ∨ 2 ≤ r)
  kids : ∀ (x : Nat) (p : PlaceV), x ∈ N → K.A.list[x]? = some p → (p.lo < 2 ∨ p.lo ∈ V ++ N) ∧ (p.hi < 2 ∨ p.hi ∈ V ++ N)
end Go.Proofs.Ytnenhecnkidnpaa
