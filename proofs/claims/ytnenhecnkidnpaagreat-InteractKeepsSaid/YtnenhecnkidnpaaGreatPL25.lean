/- The world of a state is laid. -/
import Derived.Test.YtnenhecnkidnpaaGreatPL23
import Derived.Test.YtnenhecnkidnpaaGreatPL24
import Derived.Deep.DeepCutAuto
namespace Go.Proofs.YtnenhecnkidnpaaGreat
open Go.RowKit Go.Maps Go.ChangeMaps Go.WideShapes

theorem set4 {x : World} {a B j : Nat} {v0 v1 v2 v3 : Value} (h : x.cell? ⟨a, 0, none⟩ = some v0 ∧ x.cell? ⟨a, 1, none⟩ = some v1 ∧ x.cell? ⟨a, 2, none⟩ = some v2 ∧ x.cell? ⟨a, 3, none⟩ = some v3) (hne : a ≠ B) (u : Value) :
    (x.setCell ⟨B, j, none⟩ u).cell? ⟨a, 0, none⟩ = some v0 ∧ (x.setCell ⟨B, j, none⟩ u).cell? ⟨a, 1, none⟩ = some v1 ∧ (x.setCell ⟨B, j, none⟩ u).cell? ⟨a, 2, none⟩ = some v2 ∧ (x.setCell ⟨B, j, none⟩ u).cell? ⟨a, 3, none⟩ = some v3 := by
  have hb : (x.setCell ⟨B, j, none⟩ u).heap[a]? = x.heap[a]? := heap_set_ne hne
  exact ⟨(World.cell?_of_block (a := ⟨a, 0, none⟩) hb).trans h.1, (World.cell?_of_block (a := ⟨a, 1, none⟩) hb).trans h.2.1, (World.cell?_of_block (a := ⟨a, 2, none⟩) hb).trans h.2.2.1, (World.cell?_of_block (a := ⟨a, 3, none⟩) hb).trans h.2.2.2⟩

theorem box4 {x : World} {B : Nat} {t : TypeId} {y0 y1 y2 y3 : Value} (h : x.heap[B]? = some (.cells #[y0, y1, y2, y3] t (0, 0))) (v0 v1 v2 v3 : Value) :
    ((((x.setCell ⟨B, 0, none⟩ v0).setCell ⟨B, 1, none⟩ v1).setCell ⟨B, 2, none⟩ v2).setCell ⟨B, 3, none⟩ v3).heap[B]? = some (.cells #[v0, v1, v2, v3] t (0, 0)) :=
  heap_set_eq (j := 3) (heap_set_eq (j := 2) (heap_set_eq (j := 1) (heap_set_eq (j := 0) h v0) v1) v2) v3

/-- a world's box is none of a world's other blocks -/
theorem WMem.other {w w' : World} {b m B : Nat} {rv tv : Value} {K : KV} {F : List Nat} {M : MV} {p : MPtr} {refs : List Nat} {tabs : List TV} {cs : Array Value} {fr : Nat × Nat} (h : WMem w b m rv tv K F M p refs tabs) (hb : w.heap[B]? = some (.cells cs 31 fr)) (u : Upd [B] w w') (hF : B ∉ F) : WMem w' b m rv tv K F M p refs tabs := by
  have nb : ∀ {k : Nat}, k ∈ [B] → k = B := fun {k} hk => by simpa using hk
  have keepT : ∀ {Z : List Nat} {d : Value} {s : TV}, TIn w Z d s → TIn w' Z d s := fun {Z d s} hd =>
    ⟨hd.ok, row_keep hd.row fun k hk => u.block k (hd.row.lt k hk).2 fun hm => blk_ne hd.row hb (by decide) (by rw [← nb hm]; exact hk), hd.fr⟩
  obtain ⟨ds, d1, d2, d3⟩ := h.mod.hs.ex
  obtain ⟨es, e1, e2, e3⟩ := h.tt.ex
  refine ⟨h.ker.upd u fun k hk hm => hF (by rw [← nb hm]; exact hk), ⟨?_, row_keep h.mod.os fun k hk => u.block k (h.mod.os.lt k hk).2 fun hm => blk_ne h.mod.os hb (by decide) (by rw [← nb hm]; exact hk),
    ⟨ds, d1, row_keep d2 fun k hk => u.block k (d2.lt k hk).2 fun hm => blk_ne d2 hb (by decide) (by rw [← nb hm]; exact hk), fun i t c hi hc => keepT (d3 i t c hi hc)⟩,
    row_keep h.mod.ts fun k hk => u.block k (h.mod.ts.lt k hk).2 fun hm => blk_ne h.mod.ts hb (by decide) (by rw [← nb hm]; exact hk), h.mod.ne, h.mod.sz⟩, h.dj,
    row_keep h.rr fun k hk => u.block k (h.rr.lt k hk).2 fun hm => blk_ne h.rr hb (by decide) (by rw [← nb hm]; exact hk), h.rf,
    ⟨es, e1, row_keep e2 fun k hk => u.block k (e2.lt k hk).2 fun hm => blk_ne e2 hb (by decide) (by rw [← nb hm]; exact hk), fun i t c hi hc => keepT (e3 i t c hi hc)⟩, h.tt.fr⟩
  rw [u.block m (heap_lt h.mod.blk) fun hm => ?_]
  · exact h.mod.blk
  · have := nb hm
    subst this
    have h1 := h.mod.blk
    rw [hb] at h1
    injection h1 with h1; injection h1 with _ h1 _; exact absurd h1 (by decide)

theorem ModIn.lt {w : World} {m : Nat} {M : MV} {p : MPtr} {Z : List Nat} (h : ModIn w m M p Z) : ∀ k, k ∈ p.all m → k < w.heap.size := fun k hk => by
  rcases MPtr.mem.1 hk with rfl | h1 | h1 | h1
  · exact heap_lt h.blk
  · exact (h.os.lt k h1).2
  · obtain ⟨xs, hr⟩ := h.hs.row; exact (hr.lt k h1).2
  · exact (h.ts.lt k h1).2

theorem LIn.start {w9 : World} {n0 s1 s2 a b m g1 g2 n R : Nat} {T : List DM} {q : KPtr} {p : MPtr} {c0 c1 : Value} (hk : KerIn w9 b (KV.new n R) T q) (hm : ModIn w9 m (MV.new n R) p (p.all m))
    (hr : w9.heap[g1]? = some (.cells #[.int .u32 (0 : Nat), .int .u32 (1 : Nat)] 36 (0, 0))) (h0 : TIn w9 [] c0 (constT n false)) (h1 : TIn w9 [] c1 (constT n true)) (z0 : ∀ k, c0.ownBlock = some k → s2 ≤ k) (z1 : ∀ k, c1.ownBlock = some k → s2 ≤ k)
    (ht : w9.heap[g2]? = some (.cells #[.int .i64 n, c0, .int .i64 n, c1] 72 (0, 0)))
    (ha : w9.heap[a]? = some (.cells #[.pointer (some ⟨b, 0, none⟩), .pointer (some ⟨m, 0, none⟩), .slice (some ⟨g1, 0, none⟩) 2 2, .slice (some ⟨g2, 0, none⟩) 2 2] 31 (0, 0)))
    (k1 : ∀ k, k ∈ q.all b → n0 ≤ k ∧ k < s1) (k2 : ∀ k, k ∈ p.all m → s1 ≤ k ∧ k < s2) (e1 : s2 ≤ g1) (e2 : s2 ≤ g2) (e3 : s2 ≤ a) (hn : n0 ≤ s1) :
    LIn w9 n0 a b m (.slice (some ⟨g1, 0, none⟩) 2 2) (.slice (some ⟨g2, 0, none⟩) 2 2) (KV.new n R) (q.all b) (MV.new n R) p [0, 1] [constT n false, constT n true] := by
  have hm0 := k2 m (MPtr.mem.2 (.inl rfl))
  have zlt : ∀ k, k ∈ q.all b ++ p.all m → k < s2 := fun k hk => by
    rcases List.mem_append.1 hk with h | h
    · have := k1 k h; omega
    · exact (k2 k h).2
  have nz : ∀ {k : Nat}, s2 ≤ k → k ∉ q.all b ++ p.all m := fun {k} hk hm => by have := zlt k hm; omega
  have nz1 : ∀ {k : Nat}, s2 ≤ k → k ∉ q.all b ∧ k ∉ p.all m := fun {k} hk => ⟨fun h => nz hk (List.mem_append.2 (.inl h)), fun h => nz hk (List.mem_append.2 (.inr h))⟩
  have own : ∀ {g k : Nat}, (Value.slice (some ⟨g, 0, none⟩) 2 2).ownBlock = some k → k = g := fun {g k} h => by simp [Value.ownBlock] at h; exact h.symm
  refine ⟨ha, ⟨⟨T, q, hk, rfl⟩, ⟨hm.blk, hm.os, ?_, hm.ts, hm.ne, fun k hk => List.mem_append.2 (.inr hk)⟩, fun k h1 h2 => ?_, ⟨rfl, .inr ⟨g1, 2, _, rfl, Nat.zero_le _, hr, Nat.le_refl _, by unfold maxLen; omega, rfl, rfl⟩⟩, fun k hk => ?_, ?_⟩, nz1 e3, fun k hk => ?_, ?_⟩
  · obtain ⟨cs, q1, q2, _⟩ := hm.hs.ex
    exact ⟨cs, q1, q2, fun i t c h => by simp [MV.new] at h⟩
  · have := k1 k h1; have := k2 k h2; omega
  · rw [own hk]; exact nz1 e1
  · exact TLs.two (t0 := constT n false) (t1 := constT n true) ht ⟨h0.ok, h0.row, fun k hk => nz (z0 k hk)⟩ ⟨h1.ok, h1.row, fun k hk => nz (z1 k hk)⟩ (Nat.zero_le _) (nz e2)
  · rcases hk with h | h | h | h | h
    · exact (k1 k h).1
    · have := k2 k h; omega
    · omega
    · rw [own h]; omega
    · rw [own h]; omega
  · have := heap_lt ha; omega

set_option maxRecDepth 100000 in
set_option maxHeartbeats 6400000 in
theorem laid_spec (n room : Int) (la wa : Option Addr) (ln lc wn wk : Nat) (Ls Ws : List Int) (w : World) (hL : RowOf w .i64 la ln Ls) (hW : RowOf w .u64 wa wn Ws) (hU : ∀ x, x ∈ Ws → U64 x) :
    Calls Tryz.prog 30 #[.agg #[.int .i64 n, .int .i64 room, .slice la ln lc, .slice wa wn wk]] w fun e w' => LaidQ room w e w' := by
  have HL := Lib.hid hL
  have HW := Lib.hid hW
  have HUW := Lib.hid hU
  obtain ⟨w0, hw0⟩ : ∃ w0, (w.alloc (.cells #[.int .i64 n, .int .i64 room, .slice la ln lc, .slice wa wn wk] 25 (0, 0))).alloc (.cells #[.pointer none, .pointer none, .slice none 0 0, .slice none 0 0] 31 (0, 0)) = w0 := ⟨_, rfl⟩
  have hsz : w0.heap.size = w.heap.size + 2 := by rw [← hw0, World.size_alloc, World.size_alloc]
  have hbx : w0.heap[w.heap.size]? = some (.cells #[.int .i64 n, .int .i64 room, .slice la ln lc, .slice wa wn wk] 25 (0, 0)) := by rw [← hw0]; exact (Below.heap_alloc _ _ _ (heap_lt (heap_alloc_new _ _))).trans (heap_alloc_new _ _)
  have hrs : w0.heap[w.heap.size + 1]? = some (.cells #[.pointer none, .pointer none, .slice none 0 0, .slice none 0 0] 31 (0, 0)) := by
    rw [← hw0]
    have h := heap_alloc_new (w.alloc (.cells #[.int .i64 n, .int .i64 room, .slice la ln lc, .slice wa wn wk] 25 (0, 0))) (.cells #[.pointer none, .pointer none, .slice none 0 0, .slice none 0 0] 31 (0, 0))
    rw [World.size_alloc] at h; exact h
  have hu0 : Upd [] w w0 := by rw [← hw0]; exact ((Upd.refl _ _).alloc _).alloc _
  have HBX := Lib.hid (And.intro hbx (And.intro hrs (And.intro hu0 hsz)))
  have HW0 := Lib.hid hw0
  have hroom := roomN_lo room
  have b0 : w0.cell? ⟨w.heap.size, 0, none⟩ = some (.int .i64 n) := cell_at hbx rfl
  have b1 : w0.cell? ⟨w.heap.size, 1, none⟩ = some (.int .i64 room) := cell_at hbx rfl
  clear hL hW hU hw0 hbx hrs hu0 hsz
  go_enter Tryz.func30, Tryz.ntmps30
  go_wp2_with fail
  rw [HW0.out]
  go_region_held3 (fun x => x.cell? ⟨w.heap.size, 0, none⟩ = some (.int .i64 n) ∧ x.cell? ⟨w.heap.size, 1, none⟩ = some (.int .i64 room)) (first | exact ⟨b0, b1⟩) (first | (go_at_call 71; refine (lvars_spec _ _).mono ?_; rintro e w1 ⟨⟨v, rfl, h1, h6⟩, rfl⟩))
  go_upto_region 2 with fail
  go_cut [23] from 18 to 22 (fun s23 wx => s23 = .bool (decide (room < 2) || decide (1048576 < room)) ∧ Upd [] w0 wx)
  case first =>
    clear b0 b1
    cases hd : decide (room < 2) with
    | true =>
      go_wp2_with fail
      go_meet
      exact ⟨by simp [hd], (Upd.refl _ _).drew⟩
    | false =>
      go_wp2_with fail
      go_meet
      exact ⟨by simp [hd], (Upd.refl _ _).drew⟩
  case rest =>
    obtain ⟨rfl, hux⟩ := hcut
    have HUX := Lib.hid hux
    clear b0 b1 hux
    obtain ⟨bb, hbb⟩ : ∃ bb, (decide (room < 2) || decide (1048576 < room)) = bb := ⟨_, rfl⟩
    have HBB := Lib.hid hbb
    rw [hbb]
    clear hbb
    go_upto_if 23 with fail
    go_cut [5] from 24 to 24 (fun s5 wx => s5 = .int .i64 (roomN room : Nat) ∧ Upd [] w0 wx)
    case first =>
      cases bb with
      | true =>
        have hR : roomN room = 200 := by unfold roomN; rw [if_pos (by simpa using HBB.out)]
        go_wp2_with fail
        go_meet
        exact ⟨by rw [hR]; rfl, HUX.out⟩
      | false =>
        have hR : ((roomN room : Nat) : Int) = room := by
          have : ¬ (room < 2 ∨ 1048576 < room) := fun h => by
            have : (decide (room < 2) || decide (1048576 < room)) = true := by simpa using h
            rw [HBB.out] at this; cases this
          unfold roomN; rw [if_neg this]; omega
        go_wp2_with fail
        go_meet
        exact ⟨by rw [hR], HUX.out⟩
    case rest =>
    obtain ⟨rfl, hux⟩ := hcut
    obtain ⟨R, hR⟩ : ∃ R, roomN room = R := ⟨_, rfl⟩
    rw [hR] at hroom
    rw [hR]
    clear HUX
    have HUX := Lib.hid (And.intro hux hR)
    have HN := Lib.hid (And.intro h1 h6)
    have HRM := Lib.hid hroom
    clear hux hR
    go_wp2_with fail
    refine (knew_spec v R _ HN.out.1 (by omega) HRM.out.1 HRM.out.2).mono ?_
    rintro e w1 ⟨b, T, q, rfl, hK, hu, hs⟩
    have HK1 := Lib.hid (And.intro hK (And.intro hu hs))
    clear hK hu hs
    go_wp2_with fail
    refine (newmodel_spec v R _ (by omega) HRM.out.2).mono ?_
    rintro e w2 hE
    obtain ⟨m, p, rfl, hml, hM, hu, hs⟩ := hE.ex
    have HM2 := Lib.hid (And.intro hM (And.intro hu (And.intro hs hml)))
    clear hE hM hu hs hml
    go_wp2_with fail
    refine (tconst_spec v false _ (by omega)).mono ?_
    rintro e w3 hE
    obtain ⟨c0, rfl, hT, hu⟩ := hE.ex
    have HC0 := Lib.hid (And.intro hT hu)
    obtain ⟨xa, xc, hxv, _⟩ := row_nil_len hT.row
    generalize hXW : (constT v false).ws.length = XW at hxv
    subst hxv
    clear hE hT hu
    have e0 : tabV (constT v false) (.slice xa XW xc) = .agg #[.int .i64 v, .slice xa XW xc] := rfl
    rw [e0]
    go_wp2_with fail
    refine (tconst_spec v true _ (by omega)).mono ?_
    rintro e w4 hE
    obtain ⟨c1, rfl, hT, hu⟩ := hE.ex
    have HC1 := Lib.hid (And.intro hT hu)
    obtain ⟨ya, yc, hyv, _⟩ := row_nil_len hT.row
    generalize hYW : (constT v true).ws.length = YW at hyv
    subst hyv
    clear hE hT hu
    have e1 : tabV (constT v true) (.slice ya YW yc) = .agg #[.int .i64 v, .slice ya YW yc] := rfl
    rw [e1]
    clear e0 e1
    go_upto_region 8 with fail
    obtain ⟨wS, hwS⟩ : ∃ wS, (w4.alloc (.cells #[.int .i64 v, .slice xa XW xc, .int .i64 v, .slice ya YW yc] 72 (0, 0))).alloc (.cells #[.pointer (some ⟨b, 0, none⟩), .pointer (some ⟨m, 0, none⟩), .slice (some ⟨w2.heap.size, 0, none⟩) 2 2, .slice (some ⟨w4.heap.size, 0, none⟩) 2 2] 31 (0, 0)) = wS := ⟨_, rfl⟩
    have hst : LIn wS w0.heap.size (w4.heap.size + 1) b m (.slice (some ⟨w2.heap.size, 0, none⟩) 2 2) (.slice (some ⟨w4.heap.size, 0, none⟩) 2 2) (KV.new v R) (q.all b) (MV.new v R) p [0, 1] [constT v false, constT v true] ∧ Upd [] w0 wS := by
      have u0 := HUX.out.1
      have u1 := HK1.out.2.1
      have u2 := HM2.out.2.1
      have u3 := HC0.out.2
      have u4 := HC1.out.2
      have z0 := u0.size
      have z1 := u1.size
      have z2 := u2.size
      have z3 := u3.size
      have z4 := u4.size
      rw [World.size_alloc] at z3
      have u5 : Upd [] w4 wS := by rw [← hwS]; exact ((Upd.refl _ _).alloc _).alloc _
      have u24 : Upd [] w2 wS := (((Upd.refl [] w2).alloc _).trans (u3.trans u4)).trans u5
      refine ⟨LIn.start (s1 := w1.heap.size) (s2 := w2.heap.size) (HK1.out.1.upd (u2.trans u24) (by simp)) (HM2.out.1.keep0 u24) ?_ (((HC0.out.1.tin (Z := []) (by simp)).keep0 u4).keep0 u5) ((HC1.out.1.tin (Z := []) (by simp)).keep0 u5)
        (fun k hk => ?_) (fun k hk => ?_) ?_ ?_ (fun k hk => ⟨?_, HK1.out.1.mem.lt k hk⟩) (fun k hk => ⟨?_, ?_⟩) (Nat.le_refl _) (by omega) (by omega) (by omega), ((u0.trans u1).trans u2).trans u24⟩
      · rw [((u3.trans u4).trans u5).block _ (heap_lt (heap_alloc_new _ _)) (by simp)]; exact heap_alloc_new _ _
      · have := (HC0.out.1.row.lt k hk).1; rw [World.size_alloc] at this; omega
      · have := (HC1.out.1.row.lt k hk).1; omega
      · rw [← hwS]; exact (Below.heap_alloc _ _ _ (heap_lt (heap_alloc_new _ _))).trans (heap_alloc_new _ _)
      · have h := heap_alloc_new (w4.alloc (.cells #[.int .i64 v, .slice xa XW xc, .int .i64 v, .slice ya YW yc] 72 (0, 0))) (.cells #[.pointer (some ⟨b, 0, none⟩), .pointer (some ⟨m, 0, none⟩), .slice (some ⟨w2.heap.size, 0, none⟩) 2 2, .slice (some ⟨w4.heap.size, 0, none⟩) 2 2] 31 (0, 0))
        rw [World.size_alloc] at h; rw [← hwS]; exact h
      · rcases HK1.out.2.2 k hk with h | h
        · cases h
        · omega
      · rcases HM2.out.2.2.1 k hk with h | h
        · cases h
        · exact h
      · exact HM2.out.1.lt k hk
    have HST := Lib.hid hst
    rw [hwS]
    obtain ⟨a, ha⟩ : ∃ a, w4.heap.size + 1 = a := ⟨_, rfl⟩
    rw [ha] at HST ⊢
    have HA := Lib.hid ha
    have HMX : ln ≤ maxLen := HL.out.mx
    have HMW : wn ≤ maxLen := HW.out.mx
    unfold maxLen at HMX HMW
    generalize hg1 : Value.slice (some ⟨w2.heap.size, 0, none⟩) 2 2 = rv0 at HST
    generalize hg2 : Value.slice (some ⟨w4.heap.size, 0, none⟩) 2 2 = tv0 at HST
    have HLL : Hid (∀ x : World, Fro w0.heap.size wS x → (x.cell? ⟨w.heap.size, 2, none⟩ = some (.slice la ln lc) ∧ x.cell? ⟨w.heap.size, 3, none⟩ = some (.slice wa wn wk)) ∧ Upd [] w x) := fun x f => by
      have hb : wS.heap[w.heap.size]? = _ := (HST.out.2.block _ (by rw [HBX.out.2.2.2]; omega) (by simp)).trans HBX.out.1
      have h1 : wS.cell? ⟨w.heap.size, 2, none⟩ = some (.slice la ln lc) := cell_at hb rfl
      have h2 : wS.cell? ⟨w.heap.size, 3, none⟩ = some (.slice wa wn wk) := cell_at hb rfl
      exact ⟨⟨f.cell h1 (by rw [HBX.out.2.2.2]; show w.heap.size < _; omega), f.cell h2 (by rw [HBX.out.2.2.2]; show w.heap.size < _; omega)⟩, f.upd (HBX.out.2.2.1.trans HST.out.2) (by rw [HBX.out.2.2.2]; omega)⟩
    have HRC : Hid (rv0 = .slice (some ⟨w2.heap.size, 0, none⟩) 2 2 ∧ tv0 = .slice (some ⟨w4.heap.size, 0, none⟩) 2 2) := ⟨hg1.symm, hg2.symm⟩
    obtain ⟨⟨z2, z3⟩, _⟩ := HLL.out wS (Fro.refl _ _)
    have HPN := Lib.hid (Ph1.new (n := v) (R := R) HN.out.1 HN.out.2 HRM.out.1 HRM.out.2)
    clear HK1 HM2 HC0 HC1 hst hwS hXW hYW ha hg1 hg2
    go_wp2_with fail
    go_loopg [51] ln (fun g s51 wr => ∃ (i : Nat) (K : KV) (F : List Nat) (M : MV) (p : MPtr), ln - i = g ∧ i ≤ ln ∧ s51 = .int .i64 i ∧ LIn wr w0.heap.size a b m rv0 tv0 K F M p [0, 1] [constT v false, constT v true] ∧ Ph1 v R K M (min i 40) ∧ Fro w0.heap.size wS wr)
    case atStart => exact ⟨0, _, _, _, _, by omega, by omega, rfl, HST.out.1, by simpa using HPN.out, Fro.refl _ _⟩
    case round =>
      obtain ⟨i, K, F, M, p, rfl, hi, rfl, hLI, hPH, hF⟩ := hrel
      obtain ⟨⟨z2, z3⟩, huw⟩ := HLL.out _ hF
      by_cases hlt : i < ln
      · obtain ⟨x, hx, hc⟩ := HL.out.at_ i hlt
        subst hx
        have hcr := huw.cell0 hc
        generalize Ls.getD i 0 = l at *
        have hil : (i : Int) < (ln : Int) := by omega
        obtain ⟨_, k1, _, _⟩ := hLI.cells
        by_cases h40 : i < 40
        · have hd : decide ((i : Int) < 40) = true := by simp; omega
          have hm1 : min i 40 = i := by omega
          have hm2 : min (i + 1) 40 = i + 1 := by omega
          rw [hm1] at hPH
          obtain ⟨he, _, _⟩ := hPH.step hLI.mem.ker.ok l
          have htr : K.trail.length ≤ 1000000 := by rw [hPH.tr]; have := hPH.tl; omega
          have HEX := Lib.hid (exch_at b l K F wr.drew (hLI.mem.ker.upd (Upd.refl [] wr).drew (by simp)) hPH.us htr)
          rw [← he] at HEX
          have HX := Lib.hid (And.intro hLI (And.intro hPH (And.intro hF (And.intro hm1 hm2))))
          have HEE0 : ∃ E, M.exchE l = E := ⟨_, rfl⟩
          obtain ⟨E, hEE⟩ := HEE0
          rw [hEE] at HEX
          have HEE := Lib.hid hEE
          clear hEE hLI hPH hF he htr huw hm1 hm2
          have hzz : ∀ x y : Int, (x == x) = true := fun x _ => by simp
          go_wp2_with fail
          go_region_held3 (fun x => x.cell? ⟨a, 1, none⟩ = some (.pointer (some ⟨m, 0, none⟩))) (first | exact k1 | exact HQ.out.2.2 | (obtain ⟨_, hcc, _⟩ := HQ2.out; exact hcc.cells.2.1)) (first
            | (go_at_call 22; refine HEX.out.mono ?_; rintro e w5 ⟨K', F', rfl, hc, hK', hu, hs⟩; obtain ⟨hL5, hF5⟩ := (HX.out.1.keep0 (Upd.refl [] wr).drew).kernel hK' hu hs; have HQ := Lib.hid (And.intro hL5 (And.intro (And.intro hc ((Fro.of0 (Upd.refl [] wr).drew).trans hF5)) hL5.cells.2.1)); clear hc hK' hu hs hL5 hF5)
            | (go_at_call 74; refine (exch9_spec m M p (F' ++ p.all m) l _ HQ.out.1.mem.mod HQ.out.1.mem.z HX.out.2.1.fit HX.out.2.1.od (by have := HX.out.2.1.tl; omega)).mono ?_; rintro e w6 hE; obtain ⟨rfl, hm⟩ := hE.ex; rw [HEE.out]; have HQ2 := Lib.hid (LIn.exch HX.out.2.1 HX.out.1.mem.ker.ok HQ.out.2.1.1 HQ.out.1 hm); clear hE hm))
          go_wp2_with fail
          obtain ⟨p', hL6, hP6, hF6⟩ := HQ2.out
          go_roundg (ln - (i + 1))
          case measure => omega
          case rel => exact ⟨i + 1, K', F', _, p', rfl, by omega, by simp, hL6, by rw [HX.out.2.2.2.2]; exact hP6, HX.out.2.2.1.trans (HQ.out.2.1.2.trans hF6)⟩
        · have hd : decide ((i : Int) < 40) = false := by simp; omega
          have HX := Lib.hid (And.intro hLI (And.intro hPH hF))
          clear hLI hPH hF huw
          go_wp2_with fail
          go_quiet (fail)
          go_wp2_with fail
          go_roundg (ln - (i + 1))
          case measure => omega
          case rel => exact ⟨i + 1, K, F, M, p, rfl, by omega, by simp, HX.out.1.keep0 ((Upd.refl _ _).drewN _), by have := HX.out.2.1; rw [show min (i + 1) 40 = min i 40 by omega]; exact this, HX.out.2.2.trans (Fro.of0 ((Upd.refl _ _).drewN _))⟩
      · obtain rfl : i = ln := by omega
        have hil : ¬ ((i : Int) < (i : Int)) := by omega
        obtain ⟨hlog, hall⟩ := hPH.log hLI.mem.ker.ok HN.out.2
        have HX := Lib.hid (And.intro hLI (And.intro hPH (And.intro hF (And.intro hlog hall))))
        clear hLI hPH hF huw hlog hall
        go_wp2_with fail
        obtain ⟨wB, hwB⟩ : ∃ wB, wr = wB := ⟨_, rfl⟩
        subst hwB
        go_loopg [73] wn (fun g s73 wx => ∃ (i c : Nat) (rv tv : Value) (K : KV) (F : List Nat) (M : MV) (p : MPtr) (refs : List Nat) (tabs : List TV), wn - i = g ∧ i ≤ wn ∧ s73 = .int .i64 i ∧ LIn wx w0.heap.size a b m rv tv K F M p refs tabs ∧ WLog K M refs tabs ∧ WAll K refs tabs ∧ Fro w0.heap.size wS wx ∧
          c ≤ i ∧ c ≤ 8 ∧ K.vars = v ∧ K.A.places = R ∧ (∀ x, K.hold x ≤ c) ∧ refs.length ≤ c + 2 ∧ M.held.length ≤ c)
        case atStart => exact ⟨0, 0, _, _, _, _, _, _, _, _, by omega, by omega, rfl, HX.out.1, HX.out.2.2.2.1, HX.out.2.2.2.2, HX.out.2.2.1, by omega, by omega, HX.out.2.1.vr, HX.out.2.1.pl, fun x => by rw [HX.out.2.1.h0]; omega, by simp, by rw [HX.out.2.1.hb]; simp⟩
        case round =>
          obtain ⟨j, c, rv, tv, K2, F2, M2, p2, refs, tabs, rfl, hj, rfl, hLI, hlog, hall, hF, hcj, hc8, hvr, hpl, hhd, hrl, hhl⟩ := hrel
          obtain ⟨⟨z2, z3⟩, huw⟩ := HLL.out _ hF
          by_cases hjt : j < wn
          · obtain ⟨y, hy, hc⟩ := HW.out.at_ j hjt
            subst hy
            have hcr := huw.cell0 hc
            have hyu : U64 (Ws.getD j 0) := HUW.out _ (by rw [List.getD_eq_getElem?_getD, List.getElem?_eq_getElem (by rw [HW.out.len]; exact hjt)]; exact List.getElem_mem _)
            generalize Ws.getD j 0 = u at *
            have hjl : (j : Int) < (wn : Int) := by omega
            have HX2 := Lib.hid (And.intro hLI (And.intro hlog (And.intro hall (And.intro hF (And.intro hvr (And.intro hpl hhd))))))
            by_cases h8 : j < 8
            · have hd : decide ((j : Int) < 8) = true := by simp; omega
              have hd2 : (j : Int) < 8 := by omega
              clear hLI hlog hall hF huw hc hvr hpl hhd
              go_wp2_with fail
              refine (word_spec v u _ HN.out.1 HN.out.2 hyu).mono ?_
              rintro e w5 hE
              obtain ⟨t, ta, tn, tc, htn, rfl, hT, hu⟩ := hE.ex
              have HT := Lib.hid (And.intro hT (And.intro hu htn))
              clear hE hT hu htn
              have HLAY := wlay_spec w0.heap.size a b m rv tv K2 F2 M2 p2 refs tabs (.slice ta tn tc) t w5 (HX2.out.1.keep0 HT.out.2.1) HX2.out.2.1 HX2.out.2.2.1 (HT.out.1.tin HX2.out.1.mem.z) (by rw [HT.out.2.2, HX2.out.2.2.2.2.1]) (fun k hk => by have h1 := (HT.out.1.row.lt k hk).1; have h2 := heap_lt HX2.out.1.blk; omega) (fun x => by have := HX2.out.2.2.2.2.2.2 x; omega) (by omega) (by omega)
              unfold tabV at HLAY
              rw [HT.out.2.2] at HLAY
              have HLAY := Lib.hid HLAY
              go_wp2_with fail
              refine HLAY.out.mono ?_
              rintro e w6 hE
              obtain ⟨rv', tv', K', F', M', p', refs', tabs', rfl, q1, q2, q3, q4, q5, q6, q7, q8, q9, q10⟩ := hE.ex
              have HQ := Lib.hid (And.intro q1 (And.intro q2 (And.intro q3 (And.intro q4 (And.intro q5 (And.intro q9 q8))))))
              clear hE q1 q2 q3 q4 q5 q8 q9 q10
              go_wp2_with fail
              go_roundg (wn - (j + 1))
              case measure => omega
              case rel => exact ⟨j + 1, c + 1, rv', tv', K', F', M', p', refs', tabs', rfl, by omega, by simp, HQ.out.1, HQ.out.2.1, HQ.out.2.2.1, (HX2.out.2.2.2.1.trans (Fro.of0 HT.out.2.1)).trans HQ.out.2.2.2.1, by omega, by omega, by rw [HQ.out.2.2.2.2.2.1.vr]; exact HX2.out.2.2.2.2.1, by rw [HQ.out.2.2.2.2.2.1.pl]; exact HX2.out.2.2.2.2.2.1, fun x => by have := HQ.out.2.2.2.2.1 x; have := HX2.out.2.2.2.2.2.2 x; omega, by omega, by omega⟩
            · have hd : decide ((j : Int) < 8) = false := by simp; omega
              have hd2 : ¬ (j : Int) < 8 := by omega
              clear hLI hlog hall hF huw hc hvr hpl hhd
              go_wp2_with fail
              go_roundg (wn - (j + 1))
              case measure => omega
              case rel => exact ⟨j + 1, c, rv, tv, K2, F2, M2, p2, refs, tabs, rfl, by omega, by simp, HX2.out.1, HX2.out.2.1, HX2.out.2.2.1, HX2.out.2.2.2.1, by omega, hc8, HX2.out.2.2.2.2.1, HX2.out.2.2.2.2.2.1, HX2.out.2.2.2.2.2.2, hrl, hhl⟩
          · obtain rfl : j = wn := by omega
            have hjl : ¬ ((j : Int) < (j : Int)) := by omega
            obtain ⟨ra, rc, hrv, _⟩ := row_nil_len hLI.mem.rr
            obtain ⟨qa, qc, htv, _⟩ := hLI.mem.tt.form
            subst hrv htv
            have HX2 := Lib.hid (And.intro hLI (And.intro hlog (And.intro hall (And.intro hF (And.intro hvr (And.intro hpl hhd))))))
            clear hLI hlog hall hF huw hvr hpl hhd
            have hk1 : K2.hold 1 < 65535 := by have := HX2.out.2.2.2.2.2.2 1; omega
            go_wp2_with fail
            refine (keep1_at b K2 F2 _ HX2.out.1.mem.ker hk1).mono ?_
            rintro e w6 ⟨F', rfl, hK, hu, hs⟩
            obtain ⟨hL6, hF6⟩ := HX2.out.1.kernel hK hu hs
            obtain ⟨hlg, hal, hex, hhd⟩ := HX2.out.2.1.keepK HX2.out.2.2.1 HX2.out.1.mem.ker.ok
            obtain ⟨k0, k1, _, _⟩ := hL6.cells
            have km := cell_at (j := 4) hL6.mem.mod.blk rfl
            have kf := frozen_at 4 hL6.mem.mod.blk
            obtain ⟨p7, hL7, hF7⟩ := hL6.model (ModE.clear hL6.mem.mod hL6.mem.mod.sz)
            have hlg7 := hlg.clear
            have HY := Lib.hid (And.intro hL7 (And.intro hlg7 (And.intro hal (And.intro (HX2.out.2.2.2.1.trans (hF6.trans hF7)) (And.intro hex hhd)))))
            have HST7 := Lib.hid (stands_spec b m _ _ (K2.keepK 1) F' { M2 with trail := [] } p7 refs tabs _ (WIn.of (hL7.keep0 (Upd.refl _ _).drew).mem hlg7) rfl (by simp))
            obtain ⟨y0, y1, y2, y3⟩ := hL7.cells
            clear hK hu hs hL6 hF6 hL7 hF7 hlg hal hex hhd hlg7
            obtain ⟨w7, hw7⟩ : ∃ w7, w6.setCell ⟨m, 4, none⟩ (.slice none 0 0) = w7 := ⟨_, rfl⟩
            rw [hw7] at HY HST7 y0 y1 y2 y3
            go_upto_region 22 with fail
            have HR7 : Hid (∀ x : World, Upd [] w7 x → (x.cell? ⟨a, 0, none⟩ = some (.pointer (some ⟨b, 0, none⟩)) ∧ x.cell? ⟨a, 1, none⟩ = some (.pointer (some ⟨m, 0, none⟩)) ∧ x.cell? ⟨a, 2, none⟩ = some (.slice ra refs.length rc) ∧ x.cell? ⟨a, 3, none⟩ = some (.slice qa tabs.length qc)) ∧ x.heap[w.heap.size + 1]? = some (.cells #[.pointer none, .pointer none, .slice none 0 0, .slice none 0 0] 31 (0, 0))) := fun x u => by
              refine ⟨⟨u.cell0 y0, u.cell0 y1, u.cell0 y2, u.cell0 y3⟩, ?_⟩
              have hl : w.heap.size + 1 < w0.heap.size := by rw [HBX.out.2.2.2]; omega
              have h1 := HY.out.2.2.2.1
              rw [u.block _ (Nat.lt_of_lt_of_le hl (Nat.le_trans HST.out.2.size h1.size)) (by simp), h1.block _ hl (Nat.lt_of_lt_of_le hl HST.out.2.size), HST.out.2.block _ hl (by simp)]
              exact HBX.out.2.1
            unfold worldV at HST7
            have hna : a ≠ w.heap.size + 1 := by
              have h2 := HST.out.1.lo a (.inr (.inr (.inl rfl)))
              rw [HBX.out.2.2.2] at h2; omega
            go_region_held3 (fun x => x.cell? ⟨a, 0, none⟩ = some (.pointer (some ⟨b, 0, none⟩)) ∧ x.cell? ⟨a, 1, none⟩ = some (.pointer (some ⟨m, 0, none⟩)) ∧ x.cell? ⟨a, 2, none⟩ = some (.slice ra refs.length rc) ∧ x.cell? ⟨a, 3, none⟩ = some (.slice qa tabs.length qc)) (first | exact (HR7.out _ (Upd.refl _ _).drew).1 | exact (HR7.out _ HU8.out).1 | exact set4 (set4 (set4 (set4 (HR7.out _ HU8.out).1 hna _) hna _) hna _) hna _) (first
              | (go_at_call 35; refine (HST7.out).mono ?_; rintro e w8 ⟨rfl, hu⟩; have HU8 := Lib.hid hu.of_drew; clear hu; have hb8 := (HR7.out _ HU8.out).2; have f0 := frozen_at 0 hb8; have f1 := frozen_at 1 hb8; have f2 := frozen_at 2 hb8; have f3 := frozen_at 3 hb8; have g0 := cell_at (j := 0) hb8 rfl; have g1 := cell_at (j := 1) hb8 rfl; have g2 := cell_at (j := 2) hb8 rfl; have g3 := cell_at (j := 3) hb8 rfl; have HB8 := Lib.hid hb8; clear hb8))
            have hb9 := box4 HB8.out (.pointer (some ⟨b, 0, none⟩)) (.pointer (some ⟨m, 0, none⟩)) (.slice ra refs.length rc) (.slice qa tabs.length qc)
            have x0 := cell_at (j := 0) hb9 rfl
            have x1 := cell_at (j := 1) hb9 rfl
            have x2 := cell_at (j := 2) hb9 rfl
            have x3 := cell_at (j := 3) hb9 rfl
            clear hb9
            go_wp2_with fail
            refine bodyPost_ret (v := .tuple #[worldV b m (.slice ra refs.length rc) (.slice qa tabs.length qc), .bool true]) (by simp [results, Tryz.results30, go_sem, x0, x1, x2, x3, worldV]) rfl ?_
            have hu9 : Upd [w.heap.size + 1] w8 ((((w8.setCell ⟨w.heap.size + 1, 0, none⟩ (.pointer (some ⟨b, 0, none⟩))).setCell ⟨w.heap.size + 1, 1, none⟩ (.pointer (some ⟨m, 0, none⟩))).setCell ⟨w.heap.size + 1, 2, none⟩ (.slice ra refs.length rc)).setCell ⟨w.heap.size + 1, 3, none⟩ (.slice qa tabs.length qc)) :=
              ((((Upd.refl _ w8).setCell (p := ⟨w.heap.size + 1, 0, none⟩) (.inl (by simp)) _).setCell (p := ⟨w.heap.size + 1, 1, none⟩) (.inl (by simp)) _).setCell (p := ⟨w.heap.size + 1, 2, none⟩) (.inl (by simp)) _).setCell (p := ⟨w.heap.size + 1, 3, none⟩) (.inl (by simp)) _
            have hlo := HY.out.1.lo
            rw [HBX.out.2.2.2] at hlo
            exact ⟨b, m, _, _, K2.keepK 1, F', _, p7, refs, tabs, rfl, (HY.out.1.keep0 HU8.out).mem.other HB8.out hu9 (fun hm => by have := hlo _ (.inl hm); omega), HY.out.2.1, HY.out.2.2.1,
              fun k hk => by have := hlo k (hk.imp id (·.imp id fun h => .inr h)); omega,
              ((HLL.out w7 HY.out.2.2.2.1).2.trans HU8.out).then hu9 (fun k hk => .inr (by simp at hk; omega)),
              by rw [HY.out.2.2.2.2.1.pl, HX2.out.2.2.2.2.2.1, HUX.out.2], fun x => by rw [HY.out.2.2.2.2.2]; have := HX2.out.2.2.2.2.2.2 x; omega, by omega, by show M2.held.length ≤ 8; omega, rfl, rfl⟩
end Go.Proofs.YtnenhecnkidnpaaGreat


/- A kernel with much room, of few variables: every operation answers. Plain. -/
namespace Go.Proofs.YtnenhecnkidnpaaGreat

theorem sum_two (n c : Nat) : c + (2 ^ n - 1) * (2 * c) = (2 ^ (n + 1) - 1) * c := by
  have h : 0 < 2 ^ n := Nat.two_pow_pos n
  obtain ⟨m, hm⟩ : ∃ m, 2 ^ n = m + 1 := ⟨2 ^ n - 1, by omega⟩
  rw [Nat.pow_succ, hm, show (m + 1) * 2 - 1 = 2 * m + 1 by omega, Nat.add_sub_cancel, Nat.add_mul, ← Nat.mul_assoc, Nat.mul_comm m 2]
  omega
theorem levF_lenT : ∀ (o : List Nat) (c : List TV), (levT c o).flatten.length ≤ (2 ^ o.length - 1) * c.length
  | [], c => by simp [levT]
  | v :: o, c => by
    have h1 := levF_lenT o (givenT c v)
    have h2 := givenT_len c v
    have h3 : (nodesT c v).length ≤ c.length := by unfold nodesT; exact List.length_filter_le _ _
    have h4 : (2 ^ o.length - 1) * (givenT c v).length ≤ (2 ^ o.length - 1) * (2 * c.length) := Nat.mul_le_mul_left _ h2
    have h5 := sum_two o.length c.length
    rw [List.length_cons]
    simp only [levT, List.flatten_cons, List.length_append]
    omega
theorem flatT_len (L : List TV) (o : List Nat) : (flatT L o).length ≤ (2 ^ o.length - 1) * L.length :=
  Nat.le_trans (levF_lenT o _) (Nat.mul_le_mul_left _ (unlikeT_len L))

/-- the table of a function -/
def tabF (n : Nat) (F : (Nat → Bool) → Bool) : TV := mkT n fun x => F fun v => x.testBit v
theorem tabF_ok {n : Nat} (hn : n ≤ 16) (F : (Nat → Bool) → Bool) : (tabF n F).Ok ∧ (tabF n F).n = n := ⟨mkT_ok _ hn, rfl⟩
theorem tabF_fn {n : Nat} {F : (Nat → Bool) → Bool} (hF : ∀ x y : Nat → Bool, (∀ v, v < n → x v = y v) → F x = F y) (y : Nat → Bool) : (tabF n F).fn y = F y := by
  unfold tabF
  rw [mkT_fn]
  exact hF _ _ fun v hv => by rw [idx_bit]; simp [hv]

/-- Refs with their functions, in room that is never used up -/
structure Ses (K : KV) (Q : List TV) (L : List (Nat × ((Nat → Bool) → Bool))) (c : Nat) : Prop where
  n6 : K.vars ≤ 6
  pl : K.A.places = 4096
  rt : RootsT K Q
  ql : Q.length ≤ c
  hh : ∀ x, K.hold x ≤ c
  nm : ∀ r f, (r, f) ∈ L → K.A.tk r = true ∧ ∀ y, K.den r y = f y

theorem Ses.op {K K' : KV} {Q : List TV} {L : List (Nat × ((Nat → Bool) → Bool))} {c r : Nat} {code : Int} {t t' : (Nat → Bool) → Bool} (h : Ses K Q L c) (hk : K.Ok) (_hk : K'.Ok) (hc : c < 60) (O : OpR K t r code K')
    (hF : ∀ x y : Nat → Bool, (∀ v, v < K.vars → x v = y v) → t x = t y) (ht : ∀ y, t y = t' y) : code = 0 ∧ ∃ Q', Ses K' Q' ((r, t') :: L) (c + 1) := by
  have hn6 := h.n6
  have hok := tabF_ok (n := K.vars) (by omega) t
  have hfn := tabF_fn hF
  rcases O with ⟨rfl, O⟩ | ⟨_, _, _, s, _, _, hs⟩ | ⟨_, _, _, hno⟩
  · refine ⟨rfl, Q ++ [tabF K.vars t], by rw [O.ext.vr]; exact hn6, by rw [O.ext.pl]; exact h.pl, ⟨fun x hx => ?_, fun u hm => ?_, fun u hm => ?_⟩, by simpa using h.ql, fun x => ?_, fun s f hm => ?_⟩
    · by_cases ex : x = r
      · subst ex; exact ⟨tabF K.vars t, by simp, fun y => by rw [O.den, hfn]⟩
      · rw [O.hd, if_neg (fun k => ex k.1)] at hx
        obtain ⟨u, hm, hd'⟩ := h.rt.rt x (by omega)
        exact ⟨u, by simp [hm], fun y => by rw [O.ext.den hk.wf y (hk.wf.ht x (by omega)).2]; exact hd' y⟩
    · rcases List.mem_append.1 hm with hm | hm
      · obtain ⟨x, a1, a2⟩ := h.rt.lr u hm
        exact ⟨x, O.ext.tk a1, fun y => by rw [O.ext.den hk.wf y a1]; exact a2 y⟩
      · simp at hm; subst hm; exact ⟨r, O.tk, fun y => by rw [O.den, hfn]⟩
    · rw [O.ext.vr]
      rcases List.mem_append.1 hm with hm | hm
      · exact h.rt.ok u hm
      · simp at hm; subst hm; exact hok
    · have := h.hh x
      rw [O.hd]; split <;> omega
    · rcases List.mem_cons.1 hm with e | hm
      · cases e; exact ⟨O.tk, fun y => by rw [O.den, ht]⟩
      · obtain ⟨a1, a2⟩ := h.nm s f hm
        exact ⟨O.ext.tk a1, fun y => by rw [O.ext.den hk.wf y a1]; exact a2 y⟩
  · have := h.hh s
    omega
  · exfalso
    have hw : NoFitW K (K.SubN (tabF K.vars t).fn) := by
      have e : (tabF K.vars t).fn = t := funext hfn
      rw [e]; exact hno.weak
    have h1 := h.rt.nofit hk (by omega) hok.1 hok.2 hw
    have h2 := flatT_len (Q ++ [tabF K.vars t]) K.order
    have h3 := hk.ord.pm.ol
    have h4 := h.ql
    have h5 : 2 ^ K.vars ≤ 2 ^ 6 := Nat.pow_le_pow_right (by omega) hn6
    rw [h.pl] at h1
    rw [h3, List.length_append, List.length_singleton] at h2
    have h6 : (2 ^ K.vars - 1) * (Q.length + 1) ≤ 63 * 61 := Nat.mul_le_mul (by omega) (by omega)
    omega

theorem Ses.eq {K : KV} {Q : List TV} {L : List (Nat × ((Nat → Bool) → Bool))} {c r s : Nat} {f g : (Nat → Bool) → Bool} (h : Ses K Q L c) (hk : K.Ok) (hu : K.Uni) (h1 : (r, f) ∈ L) (h2 : (s, g) ∈ L) (e : ∀ y, f y = g y) : r = s := by
  obtain ⟨a1, a2⟩ := h.nm r f h1
  obtain ⟨b1, b2⟩ := h.nm s g h2
  exact KV.canon hk.wf hk.ord hu _ _ _ a1 b1 (Nat.le_refl _) fun y => by rw [a2, b2, e]
theorem Ses.low {K : KV} {Q : List TV} {L : List (Nat × ((Nat → Bool) → Bool))} {c r : Nat} {f : (Nat → Bool) → Bool} (h : Ses K Q L c) (hk : K.Ok) (h1 : (r, f) ∈ L) : K.A.tk r = true ∧ r ≤ 4294967295 ∧ ∀ y, K.den r y = f y := by
  obtain ⟨a1, a2⟩ := h.nm r f h1
  exact ⟨a1, by have := hk.ref_lt a1; omega, a2⟩

/-- a session in memory, all of it from n0 on -/
def SesW (w : World) (b n0 : Nat) (L : List (Nat × ((Nat → Bool) → Bool))) (c : Nat) : Prop :=
  ∃ (K : KV) (F : List Nat) (Q : List TV), KerAt w b K F ∧ (∀ k, k ∈ F → n0 ≤ k) ∧ n0 ≤ w.heap.size ∧ Ses K Q L c
theorem SesW.keep0 {w w' : World} {b n0 c : Nat} {L : List (Nat × ((Nat → Bool) → Bool))} (h : SesW w b n0 L c) (u : Upd [] w w') : SesW w' b n0 L c := by
  obtain ⟨K, F, Q, h1, h2, h3, h4⟩ := h
  exact ⟨K, F, Q, h1.upd u (by simp), h2, Nat.le_trans h3 u.size, h4⟩
theorem SesW.eq {w : World} {b n0 c r s : Nat} {f g : (Nat → Bool) → Bool} {L : List (Nat × ((Nat → Bool) → Bool))} (h : SesW w b n0 L c) (h1 : (r, f) ∈ L) (h2 : (s, g) ∈ L) (e : ∀ y, f y = g y) : r = s := by
  obtain ⟨K, F, Q, hk, _, _, h4⟩ := h
  exact h4.eq hk.ok hk.uni h1 h2 e

/-- an operation's post -/
structure SesQ (b n0 : Nat) (L : List (Nat × ((Nat → Bool) → Bool))) (c : Nat) (t : (Nat → Bool) → Bool) (w : World) (e : Ending) (w' : World) : Prop where
  ex : ∃ r : Nat, e = .returned (.tuple #[.int .u32 r, .int .i64 0]) ∧ r ≤ 4294967295 ∧ SesW w' b n0 ((r, t) :: L) (c + 1) ∧ Fro n0 w w'

theorem SesQ.of {b n0 c : Nat} {K : KV} {q : KPtr} {L : List (Nat × ((Nat → Bool) → Bool))} {Q : List TV} {t t' : (Nat → Bool) → Bool} {w w' : World} {e : Ending} (hk : K.Ok) (h2 : ∀ k, k ∈ q.all b → n0 ≤ k) (h3 : n0 ≤ w.heap.size) (h4 : Ses K Q L c) (hc : c < 60)
    (hF : ∀ x y : Nat → Bool, (∀ v, v < K.vars → x v = y v) → t x = t y) (ht : ∀ y, t y = t' y) (P : OpPost b K q t w e w') : SesQ b n0 L c t' w e w' := by
  obtain ⟨r, code, K', T', q', rfl, O, hk', hu, hs⟩ := P.ex
  obtain ⟨rfl, Q', hS⟩ := h4.op hk hk'.ok hc O hF ht
  have hkr := hk'.ok.ref_lt (hS.nm r t' (by simp)).1
  refine ⟨r, rfl, by omega, ⟨K', q'.all b, Q', ⟨T', q', hk', rfl⟩, fun k hm => ?_, Nat.le_trans h3 hu.size, hS⟩, Fro.of hu h2⟩
  rcases hs k hm with h | h
  · exact h2 k h
  · omega
end Go.Proofs.YtnenhecnkidnpaaGreat


/- A kernel with much room, of few variables: each operation answers its function. -/
namespace Go.Proofs.YtnenhecnkidnpaaGreat
open Go.RowKit Go.Maps Go.ChangeMaps Go.WideShapes

set_option maxRecDepth 100000 in
theorem not_live (b f : Nat) (K : KV) (T : List DM) (q : KPtr) (w : World) (h : KerIn w b K T q) (hf : K.A.tk f = true) :
    Calls Tryz.prog 15 #[.pointer (some ⟨b, 0, none⟩), .int .u32 f] w fun e w' => OpPost b K q (K.fun3 (fun x y _ => opB 3 x y) f 0 0) w e w' := by
  have HC := Lib.hid (binary_live b 3 f 0 K T q w h (by omega) hf (h.ok.tk_const (by omega)))
  clear h hf
  go_enter Tryz.func15, Tryz.ntmps15
  go_wp2_with fail
  refine HC.out.mono ?_
  rintro e w1 hE
  obtain ⟨r, code, K', T', q', rfl, hP⟩ := hE.ex
  have HE := Lib.hid hP
  clear hE hP HC
  go_wp2_with fail
  go_ret2
  exact ⟨r, code, K', T', q', rfl, HE.out⟩

theorem KV.Ok.fun3_low {K : KV} (hk : K.Ok) {f g h : Nat} (L : Bool → Bool → Bool → Bool) (hf : K.A.tk f = true) (hg : K.A.tk g = true) (hh : K.A.tk h = true) (x y : Nat → Bool) (e : ∀ v, v < K.vars → x v = y v) : K.fun3 L f g h x = K.fun3 L f g h y := by
  unfold KV.fun3
  rw [hk.den_low hf e, hk.den_low hg e, hk.den_low hh e]

theorem opB_or (a b : Bool) : opB 14 a b = (a || b) := by cases a <;> cases b <;> decide
theorem opB_not (a b : Bool) : opB 3 a b = !a := by cases a <;> cases b <;> decide

theorem not_ses {b n0 c f : Nat} {F : (Nat → Bool) → Bool} {L : List (Nat × ((Nat → Bool) → Bool))} {w : World} (h : SesW w b n0 L c) (hc : c < 60) (hf : (f, F) ∈ L) :
    Calls Tryz.prog 15 #[.pointer (some ⟨b, 0, none⟩), .int .u32 f] w fun e w' => SesQ b n0 L c (fun y => !F y) w e w' := by
  obtain ⟨K, _, Q, ⟨T, q, hk, rfl⟩, h2, h3, h4⟩ := h
  obtain ⟨a1, a2, a3⟩ := h4.low hk.ok hf
  have t0 := hk.ok.tk_const (r := 0) (by omega)
  exact (not_live b f K T q w hk a1).mono fun e w' P => .of hk.ok h2 h3 h4 hc (hk.ok.fun3_low _ a1 t0 t0) (fun y => by show opB 3 _ _ = _; rw [opB_not, a3]) P
theorem and_ses {b n0 c f g : Nat} {F G : (Nat → Bool) → Bool} {L : List (Nat × ((Nat → Bool) → Bool))} {w : World} (h : SesW w b n0 L c) (hc : c < 60) (hf : (f, F) ∈ L) (hg : (g, G) ∈ L) :
    Calls Tryz.prog 16 #[.pointer (some ⟨b, 0, none⟩), .int .u32 f, .int .u32 g] w fun e w' => SesQ b n0 L c (fun y => F y && G y) w e w' := by
  obtain ⟨K, _, Q, ⟨T, q, hk, rfl⟩, h2, h3, h4⟩ := h
  obtain ⟨a1, a2, a3⟩ := h4.low hk.ok hf
  obtain ⟨b1, b2, b3⟩ := h4.low hk.ok hg
  have t0 := hk.ok.tk_const (r := 0) (by omega)
  exact (and_live b f g K T q w hk a1 b1).mono fun e w' P => .of hk.ok h2 h3 h4 hc (hk.ok.fun3_low _ a1 b1 t0) (fun y => by show opB 8 _ _ = _; rw [opB_and, a3, b3]) P
theorem or_ses {b n0 c f g : Nat} {F G : (Nat → Bool) → Bool} {L : List (Nat × ((Nat → Bool) → Bool))} {w : World} (h : SesW w b n0 L c) (hc : c < 60) (hf : (f, F) ∈ L) (hg : (g, G) ∈ L) :
    Calls Tryz.prog 17 #[.pointer (some ⟨b, 0, none⟩), .int .u32 f, .int .u32 g] w fun e w' => SesQ b n0 L c (fun y => F y || G y) w e w' := by
  obtain ⟨K, _, Q, ⟨T, q, hk, rfl⟩, h2, h3, h4⟩ := h
  obtain ⟨a1, a2, a3⟩ := h4.low hk.ok hf
  obtain ⟨b1, b2, b3⟩ := h4.low hk.ok hg
  have t0 := hk.ok.tk_const (r := 0) (by omega)
  exact (or_live b f g K T q w hk a1 b1).mono fun e w' P => .of hk.ok h2 h3 h4 hc (hk.ok.fun3_low _ a1 b1 t0) (fun y => by show opB 14 _ _ = _; rw [opB_or, a3, b3]) P
theorem xor_ses {b n0 c f g : Nat} {F G : (Nat → Bool) → Bool} {L : List (Nat × ((Nat → Bool) → Bool))} {w : World} (h : SesW w b n0 L c) (hc : c < 60) (hf : (f, F) ∈ L) (hg : (g, G) ∈ L) :
    Calls Tryz.prog 18 #[.pointer (some ⟨b, 0, none⟩), .int .u32 f, .int .u32 g] w fun e w' => SesQ b n0 L c (fun y => F y != G y) w e w' := by
  obtain ⟨K, _, Q, ⟨T, q, hk, rfl⟩, h2, h3, h4⟩ := h
  obtain ⟨a1, a2, a3⟩ := h4.low hk.ok hf
  obtain ⟨b1, b2, b3⟩ := h4.low hk.ok hg
  have t0 := hk.ok.tk_const (r := 0) (by omega)
  exact (xor_live b f g K T q w hk a1 b1).mono fun e w' P => .of hk.ok h2 h3 h4 hc (hk.ok.fun3_low _ a1 b1 t0) (fun y => by show opB 6 _ _ = _; rw [opB_xor, a3, b3]) P
theorem binary_ses {b n0 c f g op : Nat} {F G : (Nat → Bool) → Bool} {L : List (Nat × ((Nat → Bool) → Bool))} {w : World} (h : SesW w b n0 L c) (hc : c < 60) (ho : op ≤ 15) (hf : (f, F) ∈ L) (hg : (g, G) ∈ L) :
    Calls Tryz.prog 19 #[.pointer (some ⟨b, 0, none⟩), .int .u8 op, .int .u32 f, .int .u32 g] w fun e w' => SesQ b n0 L c (fun y => opB op (F y) (G y)) w e w' := by
  obtain ⟨K, _, Q, ⟨T, q, hk, rfl⟩, h2, h3, h4⟩ := h
  obtain ⟨a1, a2, a3⟩ := h4.low hk.ok hf
  obtain ⟨b1, b2, b3⟩ := h4.low hk.ok hg
  have t0 := hk.ok.tk_const (r := 0) (by omega)
  exact (binary_live b op f g K T q w hk ho a1 b1).mono fun e w' P => .of hk.ok h2 h3 h4 hc (hk.ok.fun3_low _ a1 b1 t0) (fun y => by show opB op _ _ = _; rw [a3, b3]) P
theorem ite_ses {b n0 c f g h : Nat} {F G H : (Nat → Bool) → Bool} {L : List (Nat × ((Nat → Bool) → Bool))} {w : World} (hs : SesW w b n0 L c) (hc : c < 60) (hf : (f, F) ∈ L) (hg : (g, G) ∈ L) (hh : (h, H) ∈ L) :
    Calls Tryz.prog 20 #[.pointer (some ⟨b, 0, none⟩), .int .u32 f, .int .u32 g, .int .u32 h] w fun e w' => SesQ b n0 L c (fun y => if F y then G y else H y) w e w' := by
  obtain ⟨K, _, Q, ⟨T, q, hk, rfl⟩, h2, h3, h4⟩ := hs
  obtain ⟨a1, a2, a3⟩ := h4.low hk.ok hf
  obtain ⟨b1, b2, b3⟩ := h4.low hk.ok hg
  obtain ⟨c1, c2, c3⟩ := h4.low hk.ok hh
  exact (ite_live b f g h K T q w hk a1 b1 c1).mono fun e w' P => .of hk.ok h2 h3 h4 hc (hk.ok.fun3_low _ a1 b1 c1) (fun y => by show (if _ then _ else _) = _; rw [a3, b3, c3]) P

set_option maxRecDepth 100000 in
theorem one_ok (r : Nat) (w : World) : Calls Tryz.prog 14 #[.int .u32 r, .int .i64 0] w fun e w' => e = .returned (.int .u32 r) ∧ w' = w := by
  go_enter Tryz.func14, Tryz.ntmps14
  go_wp2_with fail
  go_ret
  exact ⟨rfl, rfl⟩
end Go.Proofs.YtnenhecnkidnpaaGreat

