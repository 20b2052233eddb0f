/- A Ref by its number; three Refs of a state with much room. -/
import Derived.Test.YtnenhecnkidnpaaGreatPL25
import Derived.WalkKit
import Derived.ProofKit
import Derived.OpenShut
import Derived.ShutString
import Derived.ChangeOld
import Derived.ChangeSlices
import Derived.Below
namespace Go.Proofs.YtnenhecnkidnpaaGreat
open Go.RowKit Go.Maps Go.ChangeMaps Go.WideShapes

/-- Slot's post -/
structure SlotQ (Z : List Nat) (M : MV) (refs : List Nat) (tabs : List TV) (w : World) (e : Ending) (w' : World) : Prop where
  ex : ∃ (j r : Nat) (t : TV) (a : Option Addr) (n c : Nat), e = .returned (.tuple #[.int .u32 r, tabV t (.slice a n c), .bool (M.isLive t)]) ∧ refs[j]? = some r ∧ tabs[j]? = some t ∧ TIn w' Z (.slice a n c) t ∧ Upd [] w w'

theorem slot_set {x : World} {W rg tg j k : Nat} {v1 v2 v3 y0 y1 y2 : Value} (h : (x.cell? ⟨W, 1, none⟩ = some v1 ∧ x.cell? ⟨W, 2, none⟩ = some v2 ∧ x.cell? ⟨W, 3, none⟩ = some v3) ∧ x.cell? ⟨rg, j, none⟩ = some y0 ∧ x.cell? ⟨tg, k, none⟩ = some y1 ∧ x.cell? ⟨tg, k + 1, none⟩ = some y2) (hl : rg < W ∧ tg < W) (a b : Value) :
    (((x.setCell ⟨W + 1, 0, none⟩ a).setCell ⟨W + 1, 1, none⟩ b).cell? ⟨W, 1, none⟩ = some v1 ∧ ((x.setCell ⟨W + 1, 0, none⟩ a).setCell ⟨W + 1, 1, none⟩ b).cell? ⟨W, 2, none⟩ = some v2 ∧ ((x.setCell ⟨W + 1, 0, none⟩ a).setCell ⟨W + 1, 1, none⟩ b).cell? ⟨W, 3, none⟩ = some v3) ∧ ((x.setCell ⟨W + 1, 0, none⟩ a).setCell ⟨W + 1, 1, none⟩ b).cell? ⟨rg, j, none⟩ = some y0 ∧ ((x.setCell ⟨W + 1, 0, none⟩ a).setCell ⟨W + 1, 1, none⟩ b).cell? ⟨tg, k, none⟩ = some y1 ∧ ((x.setCell ⟨W + 1, 0, none⟩ a).setCell ⟨W + 1, 1, none⟩ b).cell? ⟨tg, k + 1, none⟩ = some y2 := by
  have key : ∀ {B o : Nat} {v : Value}, B ≠ W + 1 → x.cell? ⟨B, o, none⟩ = some v → ((x.setCell ⟨W + 1, 0, none⟩ a).setCell ⟨W + 1, 1, none⟩ b).cell? ⟨B, o, none⟩ = some v := fun {B o v} hB hv => by
    have e1 : ((x.setCell ⟨W + 1, 0, none⟩ a).setCell ⟨W + 1, 1, none⟩ b).heap[B]? = x.heap[B]? := (heap_set_ne hB).trans (heap_set_ne hB)
    exact (World.cell?_of_block (a := ⟨B, o, none⟩) e1).trans hv
  exact ⟨⟨key (by omega) h.1.1, key (by omega) h.1.2.1, key (by omega) h.1.2.2⟩, key (by omega) h.2.1, key (by omega) h.2.2.1, key (by omega) h.2.2.2⟩

set_option maxRecDepth 100000 in
set_option maxHeartbeats 3200000 in
theorem slot_spec (b m : Nat) (rv tv : Value) (K : KV) (F : List Nat) (M : MV) (p : MPtr) (refs : List Nat) (tabs : List TV) (i : Int) (w : World) (h : WMem w b m rv tv K F M p refs tabs) (l : WLog K M refs tabs) :
    Calls Tryz.prog 31 #[worldV b m rv tv, .int .i64 i] w fun e w' => SlotQ (F ++ p.all m) M refs tabs w e w' := by
  obtain ⟨ra, rc, hrv, hra⟩ := row_nil_len h.rr
  obtain ⟨ta, tc, htv, hta⟩ := h.tt.form
  subst hrv htv
  have HW := Lib.hid h
  have HLG := Lib.hid l
  have hrb := l.rb
  have hlr := l.lr
  have hpos : 0 < refs.length := by
    obtain ⟨rest, hr⟩ := l.t2
    rw [hlr, hr]; simp
  obtain ⟨rg, rfl⟩ := row_some h.rr hpos
  obtain ⟨tg, rfl⟩ := hta (by omega)
  have HBX := Lib.hid (boxW w (.pointer (some ⟨b, 0, none⟩)) (.pointer (some ⟨m, 0, none⟩)) (.slice (some ⟨rg, 0, none⟩) refs.length rc) (.slice (some ⟨tg, 0, none⟩) tabs.length tc))
  have HU0 := Lib.hid (((Upd.refl [] w).alloc (.cells #[.pointer (some ⟨b, 0, none⟩), .pointer (some ⟨m, 0, none⟩), .slice (some ⟨rg, 0, none⟩) refs.length rc, .slice (some ⟨tg, 0, none⟩) tabs.length tc] 31 (0, 0))).alloc (.cells #[.int .i64 0, .slice none 0 0] 72 (0, 0)))
  unfold worldV
  obtain ⟨j, hj, hjl⟩ : ∃ j : Nat, wrap64 ((IntKind.u64.wrap i).tmod (tabs.length : Int)) = j ∧ j < tabs.length := by
    have h0 := (u64_wrap_nonneg i).1
    rw [Int.tmod_eq_emod_of_nonneg h0]
    have h1 : 0 ≤ (IntKind.u64.wrap i) % (tabs.length : Int) := Int.emod_nonneg _ (by omega)
    have h2 : (IntKind.u64.wrap i) % (tabs.length : Int) < tabs.length := Int.emod_lt_of_pos _ (by omega)
    exact ⟨((IntKind.u64.wrap i) % (tabs.length : Int)).toNat, by unfold wrap64; omega, by omega⟩
  obtain ⟨r, hr⟩ : ∃ r, refs[j]? = some r := ⟨_, List.getElem?_eq_getElem (by omega)⟩
  obtain ⟨t, ht⟩ : ∃ t, tabs[j]? = some t := ⟨_, List.getElem?_eq_getElem hjl⟩
  have q0 : w.cell? ⟨rg, j, none⟩ = some (.int .u32 r) := row_cell HW.out.rr (flatRefs_get hr)
  obtain ⟨ct, q1, q2, hti⟩ := HW.out.tt.at_ ht
  obtain ⟨ca, cc, hct, _⟩ := row_nil_len hti.row
  subst hct
  have HT := Lib.hid (And.intro hti (And.intro hr ht))
  have HLV : Hid (∀ x : World, Upd [] w x → Calls Tryz.prog 78 #[.pointer (some ⟨m, 0, none⟩), .agg #[.int .i64 t.n, .slice ca t.ws.length cc]] x fun e w' => e = .returned (.bool (M.isLive t)) ∧ Upd [] x w') := fun x u =>
    islive_spec m M p (F ++ p.all m) _ t x (HW.out.mod.keep0 u) (fun k hk => Nat.lt_of_lt_of_le (HW.out.z k hk) u.size) HLG.out.fit (HT.out.1.keep0 u)
  obtain ⟨w0, hw0⟩ : ∃ w0, (w.alloc (.cells #[.pointer (some ⟨b, 0, none⟩), .pointer (some ⟨m, 0, none⟩), .slice (some ⟨rg, 0, none⟩) tabs.length rc, .slice (some ⟨tg, 0, none⟩) tabs.length tc] 31 (0, 0))).alloc (.cells #[.int .i64 0, .slice none 0 0] 72 (0, 0)) = w0 := ⟨_, rfl⟩
  rw [hlr] at HBX HU0
  rw [hw0] at HU0
  have hrs : w0.heap[w.heap.size + 1]? = some (.cells #[.int .i64 0, .slice none 0 0] 72 (0, 0)) := by
    have h := heap_alloc_new (w.alloc (.cells #[.pointer (some ⟨b, 0, none⟩), .pointer (some ⟨m, 0, none⟩), .slice (some ⟨rg, 0, none⟩) tabs.length rc, .slice (some ⟨tg, 0, none⟩) tabs.length tc] 31 (0, 0))) (.cells #[.int .i64 0, .slice none 0 0] 72 (0, 0))
    rw [World.size_alloc] at h; rw [← hw0]; exact h
  have HK : Hid (∀ x : World, Upd [] w0 x → (x.cell? ⟨w.heap.size, 1, none⟩ = some (.pointer (some ⟨m, 0, none⟩)) ∧ x.cell? ⟨w.heap.size, 2, none⟩ = some (.slice (some ⟨rg, 0, none⟩) tabs.length rc) ∧ x.cell? ⟨w.heap.size, 3, none⟩ = some (.slice (some ⟨tg, 0, none⟩) tabs.length tc)) ∧
      x.cell? ⟨rg, j, none⟩ = some (.int .u32 r) ∧ x.cell? ⟨tg, j * 2, none⟩ = some (.int .i64 t.n) ∧ x.cell? ⟨tg, j * 2 + 1, none⟩ = some (.slice ca t.ws.length cc)) := fun x u => by
    have e1 := HBX.out.2.1
    have e2 := HBX.out.2.2.1
    have e3 := HBX.out.2.2.2
    have u1 : Upd [] (w.alloc (.cells #[.pointer (some ⟨b, 0, none⟩), .pointer (some ⟨m, 0, none⟩), .slice (some ⟨rg, 0, none⟩) tabs.length rc, .slice (some ⟨tg, 0, none⟩) tabs.length tc] 31 (0, 0))) x := by rw [← hw0] at u; exact ((Upd.refl _ _).alloc _).trans u
    exact ⟨⟨u1.cell0 e1, u1.cell0 e2, u1.cell0 e3⟩, (HU0.out.trans u).cell0 q0, (HU0.out.trans u).cell0 q1, (HU0.out.trans u).cell0 q2⟩
  have HRS := Lib.hid hrs
  have HW0 := Lib.hid hw0
  obtain ⟨⟨b1, b2, b3⟩, _⟩ := HK.out w0 (Upd.refl _ _)
  generalize t.ws.length = TW at *
  have htn : tabV t (.slice ca TW cc) = .agg #[.int .i64 t.n, .slice ca TW cc] := rfl
  have HTN := Lib.hid htn
  clear htn
  generalize hn : t.n = n at *
  have HN := Lib.hid hn
  have hjl2 : (j : Int) < (tabs.length : Int) := by omega
  have hpos2 : ¬ ((tabs.length : Int) = 0) := by omega
  have HLTS : Hid (rg < w.heap.size ∧ tg < w.heap.size) := ⟨World.block_lt_of_cell? _ _ q0, World.block_lt_of_cell? _ _ q1⟩
  clear h l hn hti hr ht q0 q1 q2 hrs hw0
  go_enter Tryz.func31, Tryz.ntmps31
  go_wp2_with fail
  rw [HW0.out, hj]
  clear hj
  go_region_held3 (fun x => (x.cell? ⟨w.heap.size, 1, none⟩ = some (.pointer (some ⟨m, 0, none⟩)) ∧ x.cell? ⟨w.heap.size, 2, none⟩ = some (.slice (some ⟨rg, 0, none⟩) tabs.length rc) ∧ x.cell? ⟨w.heap.size, 3, none⟩ = some (.slice (some ⟨tg, 0, none⟩) tabs.length tc)) ∧
      x.cell? ⟨rg, j, none⟩ = some (.int .u32 r) ∧ x.cell? ⟨tg, j * 2, none⟩ = some (.int .i64 n) ∧ x.cell? ⟨tg, j * 2 + 1, none⟩ = some (.slice ca TW cc)) (first | exact HK.out _ (Upd.refl _ _).drew | exact HK.out _ HU2.out | exact HKS.out) (first
    | (go_at_call 78; refine (HLV.out _ HU0.out.drew).mono ?_; rintro e w2 ⟨rfl, hu⟩; have HU2 := Lib.hid hu.of_drew; clear hu; have hb2 := (HU2.out.block _ (heap_lt HRS.out) (by simp)).trans HRS.out; have f0 := frozen_at 0 hb2; have f1 := frozen_at 1 hb2; have g0 := cell_at (j := 0) hb2 rfl; have g1 := cell_at (j := 1) hb2 rfl; have HKS := Lib.hid (slot_set (HK.out _ HU2.out) HLTS.out (.int .i64 n) (.slice ca TW cc)); have HB2 := Lib.hid hb2; clear hb2))
  have hb9 := heap_set_eq (j := 1) (heap_set_eq (j := 0) HB2.out (.int .i64 n)) (.slice ca TW cc)
  have x0 := cell_at (j := 0) hb9 rfl
  have x1 := cell_at (j := 1) hb9 rfl
  clear hb9
  go_wp2_with fail
  refine bodyPost_ret (v := .tuple #[.int .u32 r, .agg #[.int .i64 n, .slice ca TW cc], .bool (M.isLive t)]) (by simp [results, Tryz.results31, go_sem, x0, x1]) rfl ?_
  have hu9 : Upd [] w ((w2.setCell ⟨w.heap.size + 1, 0, none⟩ (.int .i64 n)).setCell ⟨w.heap.size + 1, 1, none⟩ (.slice ca TW cc)) :=
    ((HU0.out.trans HU2.out).setCell (p := ⟨w.heap.size + 1, 0, none⟩) (.inr (Nat.le_succ _)) _).setCell (p := ⟨w.heap.size + 1, 1, none⟩) (.inr (Nat.le_succ _)) _
  exact ⟨j, r, t, ca, TW, cc, by rw [HTN.out], HT.out.2.1, HT.out.2.2, HT.out.1.keep0 hu9, hu9⟩

/-- three Refs of a state with much room -/
structure RefsQ (w : World) (e : Ending) (w' : World) : Prop where
  ex : ∃ (b m g : Nat) (rv tv : Value) (ra rb rc : Nat) (A B C : (Nat → Bool) → Bool), e = .returned (.tuple #[worldV b m rv tv, .slice (some ⟨g, 0, none⟩) 3 3, .bool true]) ∧ w'.heap[g]? = some (.cells #[.int .u32 ra, .int .u32 rb, .int .u32 rc] 36 (0, 0)) ∧
    SesW w' b w.heap.size [(ra, A), (rb, B), (rc, C), (0, fun _ => false), (1, fun _ => true)] 10 ∧ Upd [] w w' ∧ (∃ (a : Option Addr) (n c : Nat), rv = .slice a n c) ∧ ∃ (a : Option Addr) (n c : Nat), tv = .slice a n c

theorem ses_laid {w1 w9 : World} {n0 b m : Nat} {rv tv : Value} {K : KV} {F : List Nat} {M : MV} {p : MPtr} {refs : List Nat} {tabs : List TV} (_hm : WMem w1 b m rv tv K F M p refs tabs) (l : WLog K M refs tabs) (al : WAll K refs tabs) (hlo : ∀ k, k ∈ F → n0 ≤ k) (hpl : K.A.places = 4096) (hhd : ∀ x, K.hold x ≤ 8) (hhl : M.held.length ≤ 8)
    (hk : KerAt w9 b K F) (hz : n0 ≤ w9.heap.size) (L : List (Nat × TV)) (hL : ∀ r t, (r, t) ∈ L → ∃ j : Nat, refs[j]? = some r ∧ tabs[j]? = some t) : SesW w9 b n0 (L.map (fun p => (p.1, p.2.fn)) ++ [(0, fun _ => false), (1, fun _ => true)]) 10 := by
  refine ⟨K, F, M.tabs, hk, hlo, hz, ⟨?_, hpl, l.agr.roots, ?_, fun x => Nat.le_trans (hhd x) (by omega), fun r f hr => ?_⟩⟩
  · have h1 := l.agr.same.n
    have h2 := l.fit.n6
    omega
  · unfold MV.tabs; rw [List.length_map]; omega
  · rcases List.mem_append.1 hr with hr | hr
    · obtain ⟨⟨r', t⟩, h1, h2⟩ := List.mem_map.1 hr
      cases h2
      obtain ⟨j, h3, h4⟩ := hL r' t h1
      exact al j r' t h3 h4
    · have h0 := const_names hk.ok false (n := 0)
      have h1 := const_names hk.ok true (n := 0)
      simp at hr
      rcases hr with ⟨rfl, rfl⟩ | ⟨rfl, rfl⟩
      · exact ⟨h0.1, fun y => by rw [show (0 : Nat) = (if false then 1 else 0) from rfl, h0.2, constT_fn]⟩
      · exact ⟨h1.1, fun y => by rw [show (1 : Nat) = (if true then 1 else 0) from rfl, h1.2, constT_fn]⟩
theorem Upd.of_eq {S : List Nat} {w w1 w2 : World} (u : Upd S w w1) (e : w1 = w2) : Upd S w w2 := e ▸ u
theorem size_refs {w w0 : World} {x y : Obj} (h : (w.alloc x).alloc y = w0) : w0.heap.size = w.heap.size + 2 := by rw [← h, World.size_alloc, World.size_alloc]

/-- the end of it -/
theorem refs_end {w w0 w1 w4 wF : World} {b m : Nat} {rv tv : Value} {K : KV} {F : List Nat} {M : MV} {p : MPtr} {refs : List Nat} {tabs : List TV} (hm : WMem w1 b m rv tv K F M p refs tabs) (l : WLog K M refs tabs) (al : WAll K refs tabs)
    (hlo : ∀ k, (k ∈ F ∨ k ∈ p.all m ∨ rv.ownBlock = some k ∨ tv.ownBlock = some k) → w0.heap.size ≤ k) (hpl : K.A.places = 4096) (hhd : ∀ x, K.hold x ≤ 8) (hhl : M.held.length ≤ 8) (u0 : Upd [] w w0) (_hB : w.heap.size + 1 < w0.heap.size) (hsz : w0.heap.size = w.heap.size + 2)
    (hz4 : w0.heap.size ≤ w4.heap.size) (uF : Upd [] w1 wF) (huF : Upd [] w0 wF) {r1 r2 r3 j1 j2 j3 : Nat} {t1 t2 t3 : TV} (hg : wF.heap[w4.heap.size + 1]? = some (.cells #[.int .u32 r1, .int .u32 r2, .int .u32 r3] 36 (0, 0))) (h1 : refs[j1]? = some r1 ∧ tabs[j1]? = some t1) (h2 : refs[j2]? = some r2 ∧ tabs[j2]? = some t2) (h3 : refs[j3]? = some r3 ∧ tabs[j3]? = some t3) (v0 v1 v2 v3 : Value) :
    RefsQ w (.returned (.tuple #[worldV b m rv tv, .slice (some ⟨w4.heap.size + 1, 0, none⟩) 3 3, .bool true])) ((((wF.setCell ⟨w.heap.size + 1, 0, none⟩ v0).setCell ⟨w.heap.size + 1, 1, none⟩ v1).setCell ⟨w.heap.size + 1, 2, none⟩ v2).setCell ⟨w.heap.size + 1, 3, none⟩ v3) := by
  have u9 : Upd [w.heap.size + 1] wF ((((wF.setCell ⟨w.heap.size + 1, 0, none⟩ v0).setCell ⟨w.heap.size + 1, 1, none⟩ v1).setCell ⟨w.heap.size + 1, 2, none⟩ v2).setCell ⟨w.heap.size + 1, 3, none⟩ v3) :=
    ((((Upd.refl _ wF).setCell (p := ⟨w.heap.size + 1, 0, none⟩) (.inl (by simp)) _).setCell (p := ⟨w.heap.size + 1, 1, none⟩) (.inl (by simp)) _).setCell (p := ⟨w.heap.size + 1, 2, none⟩) (.inl (by simp)) _).setCell (p := ⟨w.heap.size + 1, 3, none⟩) (.inl (by simp)) _
  have uw : Upd [] w ((((wF.setCell ⟨w.heap.size + 1, 0, none⟩ v0).setCell ⟨w.heap.size + 1, 1, none⟩ v1).setCell ⟨w.heap.size + 1, 2, none⟩ v2).setCell ⟨w.heap.size + 1, 3, none⟩ v3) :=
    ((((u0.trans huF).setCell (p := ⟨w.heap.size + 1, 0, none⟩) (.inr (Nat.le_succ _)) _).setCell (p := ⟨w.heap.size + 1, 1, none⟩) (.inr (Nat.le_succ _)) _).setCell (p := ⟨w.heap.size + 1, 2, none⟩) (.inr (Nat.le_succ _)) _).setCell (p := ⟨w.heap.size + 1, 3, none⟩) (.inr (Nat.le_succ _)) _
  obtain ⟨xa, xc, hxr, _⟩ := row_nil_len hm.rr
  obtain ⟨ya, yc, hyr, _⟩ := hm.tt.form
  refine ⟨b, m, w4.heap.size + 1, rv, tv, r1, r2, r3, t1.fn, t2.fn, t3.fn, rfl, ?_, ?_, uw, ⟨xa, _, xc, hxr⟩, ya, _, yc, hyr⟩
  · exact (u9.block _ (heap_lt hg) (by simp; omega)).trans hg
  · refine ses_laid hm l al (fun k hk => by have := hlo k (.inl hk); omega) hpl hhd hhl ((hm.ker.upd uF (by simp)).upd u9 fun k hk hc => ?_) uw.size [(r1, t1), (r2, t2), (r3, t3)] fun r t hm => ?_
    · have := hlo k (.inl hk); simp at hc; omega
    · simp at hm
      rcases hm with ⟨rfl, rfl⟩ | ⟨rfl, rfl⟩ | ⟨rfl, rfl⟩
      · exact ⟨j1, h1⟩
      · exact ⟨j2, h2⟩
      · exact ⟨j3, h3⟩

set_option maxRecDepth 100000 in
set_option maxHeartbeats 6400000 in
theorem refs_spec (n room i1 i2 i3 : Int) (la wa : Option Addr) (ln lc wn wk : Nat) (Ls Ws : List Int) (w : World) (hL : RowOf w .i64 la ln Ls) (hW : RowOf w .u64 wa wn Ws) (hU : ∀ x, x ∈ Ws → U64 x) :
    Calls Tryz.prog 12 #[.agg #[.int .i64 n, .int .i64 room, .slice la ln lc, .slice wa wn wk], .int .i64 i1, .int .i64 i2, .int .i64 i3] w fun e w' => RefsQ w e w' := by
  have HLD : Hid (∀ x : World, Upd [] w x → Calls Tryz.prog 30 #[.agg #[.int .i64 n, .int .i64 4096, .slice la ln lc, .slice wa wn wk]] x fun e w' => LaidQ 4096 x e w') := fun x u =>
    laid_spec n 4096 la wa ln lc wn wk Ls Ws x (hL.keep0 u) (hW.keep0 u) hU
  obtain ⟨w0, hw0⟩ : ∃ w0, (w.alloc (.cells #[.int .i64 n, .int .i64 4096, .slice la ln lc, .slice wa wn wk] 25 (0, 0))).alloc (.cells #[.pointer none, .pointer none, .slice none 0 0, .slice none 0 0] 31 (0, 0)) = w0 := ⟨_, rfl⟩
  have hrs : w0.heap[w.heap.size + 1]? = some (.cells #[.pointer none, .pointer none, .slice none 0 0, .slice none 0 0] 31 (0, 0)) := by
    rw [← hw0]
    have h := heap_alloc_new (w.alloc (.cells #[.int .i64 n, .int .i64 4096, .slice la ln lc, .slice wa wn wk] 25 (0, 0))) (.cells #[.pointer none, .pointer none, .slice none 0 0, .slice none 0 0] 31 (0, 0))
    rw [World.size_alloc] at h; exact h
  have hu0 : Upd [] w w0 := by rw [← hw0]; exact ((Upd.refl _ _).alloc _).alloc _
  have HW0 := Lib.hid hw0
  have HRS := Lib.hid (And.intro hrs hu0)
  clear hL hW hU hw0 hrs hu0
  go_enter Tryz.func12, Tryz.ntmps12
  go_wp2_with fail
  rw [HW0.out]
  refine (HLD.out _ HRS.out.2).mono ?_
  rintro e w1 hE
  obtain ⟨b, m, rv, tv, K, F, M, p, refs, tabs, rfl, hm, hlg, hal, hlo, hu, hpl, hhd, hrl, hhl, _, _⟩ := hE.ex
  obtain ⟨ra, rc, hrv, _⟩ := row_nil_len hm.rr
  obtain ⟨qa, qc, htv, _⟩ := hm.tt.form
  subst hrv htv
  have HM := Lib.hid (And.intro hm (And.intro hlg (And.intro hal (And.intro hlo (And.intro hu (And.intro hpl (And.intro hhd hhl)))))))
  have HSL : Hid (∀ (x : World) (i : Int), Upd [] w1 x → Calls Tryz.prog 31 #[worldV b m (.slice ra refs.length rc) (.slice qa tabs.length qc), .int .i64 i] x fun e w' => SlotQ (F ++ p.all m) M refs tabs x e w') := fun x i u =>
    slot_spec b m _ _ K F M p refs tabs i x (hm.keep0 u) hlg
  have HBX := Lib.hid (boxW w1 (.pointer (some ⟨b, 0, none⟩)) (.pointer (some ⟨m, 0, none⟩)) (.slice ra refs.length rc) (.slice qa tabs.length qc))
  obtain ⟨wA, hwA⟩ : ∃ wA, w1.alloc (.cells #[.pointer (some ⟨b, 0, none⟩), .pointer (some ⟨m, 0, none⟩), .slice ra refs.length rc, .slice qa tabs.length qc] 31 (0, 0)) = wA := ⟨_, rfl⟩
  rw [hwA] at HBX
  have HUA : Hid (Upd [] w1 wA) := by show Upd [] w1 wA; rw [← hwA]; exact (Upd.refl _ _).alloc _
  have HWA := Lib.hid hwA
  have HK : Hid (∀ x : World, Upd [] wA x → (x.cell? ⟨w1.heap.size, 0, none⟩ = some (.pointer (some ⟨b, 0, none⟩)) ∧ x.cell? ⟨w1.heap.size, 1, none⟩ = some (.pointer (some ⟨m, 0, none⟩)) ∧ x.cell? ⟨w1.heap.size, 2, none⟩ = some (.slice ra refs.length rc) ∧ x.cell? ⟨w1.heap.size, 3, none⟩ = some (.slice qa tabs.length qc))) := fun x u =>
    ⟨u.cell0 HBX.out.1, u.cell0 HBX.out.2.1, u.cell0 HBX.out.2.2.1, u.cell0 HBX.out.2.2.2⟩
  unfold worldV at HSL ⊢
  clear hE hm hlg hal hlo hu hpl hhd hrl hhl hwA
  go_upto_region 3 with fail
  rw [HWA.out]
  obtain ⟨y0, y1, y2, y3⟩ := HK.out _ (Upd.refl _ _)
  go_wp2_with fail
  refine (HSL.out _ _ HUA.out).mono ?_
  rintro e w2 hE
  obtain ⟨j1, r1, t1, a1, n1, c1, rfl, hr1, ht1, _, hu1⟩ := hE.ex
  have e0 : tabV t1 (.slice a1 n1 c1) = .agg #[.int .i64 t1.n, .slice a1 n1 c1] := rfl
  rw [e0]
  have HU2 := Lib.hid (hu1.alloc (.cells #[.int .i64 t1.n, .slice a1 n1 c1] 72 (0, 0)))
  have H1 := Lib.hid (And.intro hr1 ht1)
  obtain ⟨y0, y1, y2, y3⟩ := HK.out _ HU2.out
  generalize t1.n = tn1 at *
  clear hE hu1 e0 hr1 ht1
  go_wp2_with fail
  refine (HSL.out _ _ (HUA.out.trans HU2.out)).mono ?_
  rintro e w3 hE
  obtain ⟨j2, r2, t2, a2, n2, c2, rfl, hr1, ht1, _, hu1⟩ := hE.ex
  have e0 : tabV t2 (.slice a2 n2 c2) = .agg #[.int .i64 t2.n, .slice a2 n2 c2] := rfl
  rw [e0]
  have HU3 := Lib.hid (HU2.out.trans (hu1.alloc (.cells #[.int .i64 t2.n, .slice a2 n2 c2] 72 (0, 0))))
  have H2 := Lib.hid (And.intro hr1 ht1)
  obtain ⟨y0, y1, y2, y3⟩ := HK.out _ HU3.out
  generalize t2.n = tn2 at *
  clear hE hu1 e0 hr1 ht1
  go_wp2_with fail
  refine (HSL.out _ _ (HUA.out.trans HU3.out)).mono ?_
  rintro e w4 hE
  obtain ⟨j3, r3, t3, a3, n3, c3, rfl, hr1, ht1, _, hu1⟩ := hE.ex
  have e0 : tabV t3 (.slice a3 n3 c3) = .agg #[.int .i64 t3.n, .slice a3 n3 c3] := rfl
  rw [e0]
  have HU4 := Lib.hid (HU3.out.trans (hu1.alloc (.cells #[.int .i64 t3.n, .slice a3 n3 c3] 72 (0, 0))))
  have H3 := Lib.hid (And.intro hr1 ht1)
  have HS4 : Hid (w0.heap.size ≤ w4.heap.size) := ((HM.out.2.2.2.2.1.trans HUA.out).trans (HU3.out.trans hu1)).size
  obtain ⟨y0, y1, y2, y3⟩ := HK.out _ HU4.out
  generalize t3.n = tn3 at *
  clear hE hu1 e0 hr1 ht1
  have hsz := HM.out.2.2.2.2.1.size
  obtain ⟨wF, hwF⟩ : ∃ wF, (w4.alloc (.cells #[.int .i64 tn3, .slice a3 n3 c3] 72 (0, 0))).alloc (.cells #[.int .u32 r1, .int .u32 r2, .int .u32 r3] 36 (0, 0)) = wF := ⟨_, rfl⟩
  have huF : Upd [] w0 wF := by rw [← hwF]; exact ((HM.out.2.2.2.2.1.trans HUA.out).trans HU4.out).alloc _
  have hbF := (huF.block _ (heap_lt HRS.out.1) (by simp)).trans HRS.out.1
  have hgF : wF.heap[w4.heap.size + 1]? = some (.cells #[.int .u32 r1, .int .u32 r2, .int .u32 r3] 36 (0, 0)) := by
    have h := heap_alloc_new (w4.alloc (.cells #[.int .i64 tn3, .slice a3 n3 c3] 72 (0, 0))) (.cells #[.int .u32 r1, .int .u32 r2, .int .u32 r3] 36 (0, 0))
    rw [World.size_alloc] at h; rw [← hwF]; exact h
  have f0 := frozen_at 0 hbF
  have f1 := frozen_at 1 hbF
  have f2 := frozen_at 2 hbF
  have f3 := frozen_at 3 hbF
  have g0 := cell_at (j := 0) hbF rfl
  have g1 := cell_at (j := 1) hbF rfl
  have g2 := cell_at (j := 2) hbF rfl
  have g3 := cell_at (j := 3) hbF rfl
  have hb9 := box4 hbF (.pointer (some ⟨b, 0, none⟩)) (.pointer (some ⟨m, 0, none⟩)) (.slice ra refs.length rc) (.slice qa tabs.length qc)
  have x0 := cell_at (j := 0) hb9 rfl
  have x1 := cell_at (j := 1) hb9 rfl
  have x2 := cell_at (j := 2) hb9 rfl
  have x3 := cell_at (j := 3) hb9 rfl
  have HF := Lib.hid (And.intro huF (And.intro hbF hgF))
  rw [← hwF] at f0 f1 f2 f3 g0 g1 g2 g3
  have HWF := Lib.hid hwF
  clear hwF huF hbF hgF hb9 hsz
  go_wp2_with fail
  rw [HWF.out]
  refine bodyPost_ret (v := .tuple #[worldV b m (.slice ra refs.length rc) (.slice qa tabs.length qc), .slice (some ⟨w4.heap.size + 1, 0, none⟩) 3 3, .bool true]) (by simp [results, Tryz.results12, go_sem, x0, x1, x2, x3, worldV]) rfl ?_
  obtain ⟨hm, hlg, hal, hlo, hu, hpl, hhd, hhl⟩ := HM.out
  exact refs_end hm hlg hal hlo (by rw [hpl]; rfl) hhd hhl HRS.out.2 (heap_lt HRS.out.1) (size_refs HW0.out) HS4.out (((HUA.out.trans HU4.out).alloc _).of_eq HWF.out) HF.out.1 HF.out.2.2 H1.out H2.out H3.out _ _ _ _
end Go.Proofs.YtnenhecnkidnpaaGreat


/- ApplyLaws' walk: the laws of and, or, xor and not, in a session. -/
namespace Go.Proofs.YtnenhecnkidnpaaGreat
open Go.RowKit Go.Maps Go.ChangeMaps Go.WideShapes

theorem mem_at {α : Type} {L : List α} {x : α} (i : Nat) (h : L[i]? = some x) : x ∈ L := List.mem_of_getElem? h

set_option maxRecDepth 100000 in
set_option maxHeartbeats 12800000 in
theorem applyLaws_walk (n room i1 i2 i3 : Int) (la wa : Option Addr) (ln lc wn wk : Nat) (Ls Ws : List Int) (w : World) (hL : RowOf w .i64 la ln Ls) (hW : RowOf w .u64 wa wn Ws) (hU : ∀ x, x ∈ Ws → U64 x) :
    Calls Tryz.prog 3 #[.agg #[.int .i64 n, .int .i64 room, .slice la ln lc, .slice wa wn wk], .int .i64 i1, .int .i64 i2, .int .i64 i3] w fun e w' => e = .returned (.bool true) ∧ Upd [] w w' := by
  have HRF : Hid (∀ x : World, Upd [] w x → Calls Tryz.prog 12 #[.agg #[.int .i64 n, .int .i64 room, .slice la ln lc, .slice wa wn wk], .int .i64 i1, .int .i64 i2, .int .i64 i3] x fun e w' => RefsQ x e w') := fun x u =>
    refs_spec n room i1 i2 i3 la wa ln lc wn wk Ls Ws x (hL.keep0 u) (hW.keep0 u) hU
  have HU0 : Hid (Upd [] w (w.alloc (.cells #[.int .i64 n, .int .i64 room, .slice la ln lc, .slice wa wn wk] 25 (0, 0)))) := (Upd.refl _ _).alloc _
  clear hL hW hU
  go_enter Tryz.func3, Tryz.ntmps3
  go_wp2_with fail
  refine (HRF.out _ HU0.out).mono ?_
  rintro e w1 hE
  obtain ⟨b0, m, g, _, _, a, b, c, A, B, C, rfl, hg, hs, hu, ⟨pa, pn, pc, rfl⟩, qa, qn, qc, rfl⟩ := hE.ex
  have e0 : worldV b0 m (.slice pa pn pc) (.slice qa qn qc) = .agg #[.pointer (some ⟨b0, 0, none⟩), .pointer (some ⟨m, 0, none⟩), .slice pa pn pc, .slice qa qn qc] := rfl
  rw [e0]
  have HU1 := Lib.hid (HU0.out.trans hu)
  have hbx := boxW w1 (.pointer (some ⟨b0, 0, none⟩)) (.pointer (some ⟨m, 0, none⟩)) (.slice pa pn pc) (.slice qa qn qc)
  have hu2 : Upd [] w1 (w1.alloc (.cells #[.pointer (some ⟨b0, 0, none⟩), .pointer (some ⟨m, 0, none⟩), .slice pa pn pc, .slice qa qn qc] 31 (0, 0))) := (Upd.refl _ _).alloc _
  have hle : w.heap.size ≤ (w.alloc (.cells #[.int .i64 n, .int .i64 room, .slice la ln lc, .slice wa wn wk] 25 (0, 0))).heap.size := HU0.out.size
  generalize hN0 : (w.alloc (.cells #[.int .i64 n, .int .i64 room, .slice la ln lc, .slice wa wn wk] 25 (0, 0))).heap.size = n0 at *
  obtain ⟨wA, hwA⟩ : ∃ wA, w1.alloc (.cells #[.pointer (some ⟨b0, 0, none⟩), .pointer (some ⟨m, 0, none⟩), .slice pa pn pc, .slice qa qn qc] 31 (0, 0)) = wA := ⟨_, rfl⟩
  rw [hwA] at hbx hu2
  have HWA := Lib.hid hwA
  have HX := Lib.hid (And.intro hbx.1 (And.intro (cell_at (j := 0) ((hu2.block _ (heap_lt hg) (by simp)).trans hg) rfl) (And.intro (cell_at (j := 1) ((hu2.block _ (heap_lt hg) (by simp)).trans hg) rfl) (cell_at (j := 2) ((hu2.block _ (heap_lt hg) (by simp)).trans hg) rfl))))
  have HS0 := Lib.hid (hs.keep0 hu2)
  have HUA := Lib.hid (HU1.out.trans hu2)
  have HLE := Lib.hid hle
  clear hE hg hs hu e0 hbx hu2 hwA hle
  go_upto_region 2 with fail
  rw [HWA.out]
  go_wp2_with fail
  refine (awake10_spec _).mono ?_
  rintro e wB ⟨rfl, hu⟩
  have HS1 := Lib.hid (HS0.out.keep0 hu)
  have HUB := Lib.hid (HUA.out.trans hu)
  have HK : Hid (∀ x : World, Upd [] wB x → x.cell? ⟨w1.heap.size, 0, none⟩ = some (.pointer (some ⟨b0, 0, none⟩)) ∧ x.cell? ⟨g, 0, none⟩ = some (.int .u32 a) ∧ x.cell? ⟨g, 1, none⟩ = some (.int .u32 b) ∧ x.cell? ⟨g, 2, none⟩ = some (.int .u32 c)) := fun x u =>
    ⟨(hu.trans u).cell0 HX.out.1, (hu.trans u).cell0 HX.out.2.1, (hu.trans u).cell0 HX.out.2.2.1, (hu.trans u).cell0 HX.out.2.2.2⟩
  clear hu HS0 HUA HX
  go_upto_region 4 with fail
  go_region_held3 (fun x => x.cell? ⟨w1.heap.size, 0, none⟩ = some (.pointer (some ⟨b0, 0, none⟩)) ∧ x.cell? ⟨g, 0, none⟩ = some (.int .u32 a) ∧ x.cell? ⟨g, 1, none⟩ = some (.int .u32 b) ∧ x.cell? ⟨g, 2, none⟩ = some (.int .u32 c)) (exact HK.out _ (Upd.refl _ _).drew) (fail)
  -- CALLS
  go_wp2_with fail
  refine (not_ses (HS1.out.keep0 (Upd.refl _ _).drew) (by omega) (mem_at 0 rfl)).mono ?_
  rintro e w1 hE
  obtain ⟨na, rfl, hr, hS, hF⟩ := hE.ex
  have HS := Lib.hid (And.intro hS ((Fro.of0 (n0 := n0) (Upd.refl _ wB).drew).trans hF))
  clear hE hS hF hr HS1 HK
  go_wp2_with fail
  refine (one_ok na _).mono ?_
  rintro e w2 ⟨rfl, rfl⟩
  go_wp2_with fail
  refine (not_ses HS.out.1 (by omega) (mem_at 2 rfl)).mono ?_
  rintro e w1 hE
  obtain ⟨nb, rfl, hr, hS, hF⟩ := hE.ex
  have HS2 := Lib.hid (And.intro hS (HS.out.2.trans hF))
  clear hE hS hF hr HS
  have HS := HS2
  clear HS2
  go_wp2_with fail
  refine (one_ok nb _).mono ?_
  rintro e w2 ⟨rfl, rfl⟩
  go_wp2_with fail
  refine (and_ses HS.out.1 (by omega) (mem_at 2 rfl) (mem_at 3 rfl)).mono ?_
  rintro e w1 hE
  obtain ⟨ab, rfl, hr, hS, hF⟩ := hE.ex
  have HS2 := Lib.hid (And.intro hS (HS.out.2.trans hF))
  clear hE hS hF hr HS
  have HS := HS2
  clear HS2
  go_wp2_with fail
  refine (one_ok ab _).mono ?_
  rintro e w2 ⟨rfl, rfl⟩
  go_wp2_with fail
  refine (and_ses HS.out.1 (by omega) (mem_at 4 rfl) (mem_at 3 rfl)).mono ?_
  rintro e w1 hE
  obtain ⟨ba, rfl, hr, hS, hF⟩ := hE.ex
  have e : ab = ba := hS.eq (mem_at 1 rfl) (mem_at 0 rfl) (fun y => by (try dsimp only); cases A y <;> cases B y <;> cases C y <;> rfl)
  subst e
  have HS2 := Lib.hid (And.intro hS (HS.out.2.trans hF))
  clear hE hS hF hr HS
  have HS := HS2
  clear HS2
  go_wp2_with fail
  refine (one_ok ab _).mono ?_
  rintro e w2 ⟨rfl, rfl⟩
  go_wp2_with fail
  refine (or_ses HS.out.1 (by omega) (mem_at 4 rfl) (mem_at 5 rfl)).mono ?_
  rintro e w1 hE
  obtain ⟨oab, rfl, hr, hS, hF⟩ := hE.ex
  have HS2 := Lib.hid (And.intro hS (HS.out.2.trans hF))
  clear hE hS hF hr HS
  have HS := HS2
  clear HS2
  go_wp2_with fail
  refine (one_ok oab _).mono ?_
  rintro e w2 ⟨rfl, rfl⟩
  go_wp2_with fail
  refine (or_ses HS.out.1 (by omega) (mem_at 6 rfl) (mem_at 5 rfl)).mono ?_
  rintro e w1 hE
  obtain ⟨oba, rfl, hr, hS, hF⟩ := hE.ex
  have e : oab = oba := hS.eq (mem_at 1 rfl) (mem_at 0 rfl) (fun y => by (try dsimp only); cases A y <;> cases B y <;> cases C y <;> rfl)
  subst e
  have HS2 := Lib.hid (And.intro hS (HS.out.2.trans hF))
  clear hE hS hF hr HS
  have HS := HS2
  clear HS2
  go_wp2_with fail
  refine (one_ok oab _).mono ?_
  rintro e w2 ⟨rfl, rfl⟩
  go_wp2_with fail
  refine (xor_ses HS.out.1 (by omega) (mem_at 6 rfl) (mem_at 7 rfl)).mono ?_
  rintro e w1 hE
  obtain ⟨xab, rfl, hr, hS, hF⟩ := hE.ex
  have HS2 := Lib.hid (And.intro hS (HS.out.2.trans hF))
  clear hE hS hF hr HS
  have HS := HS2
  clear HS2
  go_wp2_with fail
  refine (one_ok xab _).mono ?_
  rintro e w2 ⟨rfl, rfl⟩
  go_wp2_with fail
  refine (not_ses HS.out.1 (by omega) (mem_at 6 rfl)).mono ?_
  rintro e w1 hE
  obtain ⟨t1, rfl, hr, hS, hF⟩ := hE.ex
  have e : a = t1 := hS.eq (mem_at 8 rfl) (mem_at 0 rfl) (fun y => by (try dsimp only); cases A y <;> cases B y <;> cases C y <;> rfl)
  subst e
  have HS2 := Lib.hid (And.intro hS (HS.out.2.trans hF))
  clear hE hS hF hr HS
  have HS := HS2
  clear HS2
  go_wp2_with fail
  refine (one_ok a _).mono ?_
  rintro e w2 ⟨rfl, rfl⟩
  go_wp2_with fail
  refine (xor_ses HS.out.1 (by omega) (mem_at 9 rfl) (mem_at 0 rfl)).mono ?_
  rintro e w1 hE
  obtain ⟨t2, rfl, hr, hS, hF⟩ := hE.ex
  have e : xab = t2 := hS.eq (mem_at 2 rfl) (mem_at 0 rfl) (fun y => by (try dsimp only); cases A y <;> cases B y <;> cases C y <;> rfl)
  subst e
  have HS2 := Lib.hid (And.intro hS (HS.out.2.trans hF))
  clear hE hS hF hr HS
  have HS := HS2
  clear HS2
  go_wp2_with fail
  refine (one_ok xab _).mono ?_
  rintro e w2 ⟨rfl, rfl⟩
  go_wp2_with fail
  refine (and_ses HS.out.1 (by omega) (mem_at 1 rfl) (mem_at 8 rfl)).mono ?_
  rintro e w1 hE
  obtain ⟨t3, rfl, hr, hS, hF⟩ := hE.ex
  have e : 0 = t3 := hS.eq (mem_at 13 rfl) (mem_at 0 rfl) (fun y => by (try dsimp only); cases A y <;> cases B y <;> cases C y <;> rfl)
  subst e
  have HS2 := Lib.hid (And.intro hS (HS.out.2.trans hF))
  clear hE hS hF hr HS
  have HS := HS2
  clear HS2
  go_wp2_with fail
  refine (one_ok 0 _).mono ?_
  rintro e w2 ⟨rfl, rfl⟩
  go_wp2_with fail
  refine (or_ses HS.out.1 (by omega) (mem_at 2 rfl) (mem_at 9 rfl)).mono ?_
  rintro e w1 hE
  obtain ⟨t4, rfl, hr, hS, hF⟩ := hE.ex
  have e : 1 = t4 := hS.eq (mem_at 15 rfl) (mem_at 0 rfl) (fun y => by (try dsimp only); cases A y <;> cases B y <;> cases C y <;> rfl)
  subst e
  have HS2 := Lib.hid (And.intro hS (HS.out.2.trans hF))
  clear hE hS hF hr HS
  have HS := HS2
  clear HS2
  go_wp2_with fail
  refine (one_ok 1 _).mono ?_
  rintro e w2 ⟨rfl, rfl⟩
  go_wp2_with fail
  refine (xor_ses HS.out.1 (by omega) (mem_at 3 rfl) (mem_at 3 rfl)).mono ?_
  rintro e w1 hE
  obtain ⟨t5, rfl, hr, hS, hF⟩ := hE.ex
  have e : 0 = t5 := hS.eq (mem_at 2 rfl) (mem_at 0 rfl) (fun y => by (try dsimp only); cases A y <;> cases B y <;> cases C y <;> rfl)
  subst e
  have HS2 := Lib.hid (And.intro hS (HS.out.2.trans hF))
  clear hE hS hF hr HS
  have HS := HS2
  clear HS2
  go_wp2_with fail
  refine (one_ok 0 _).mono ?_
  rintro e w2 ⟨rfl, rfl⟩
  go_wp2_with fail
  refine (and_ses HS.out.1 (by omega) (mem_at 4 rfl) (mem_at 4 rfl)).mono ?_
  rintro e w1 hE
  obtain ⟨t6, rfl, hr, hS, hF⟩ := hE.ex
  have e : a = t6 := hS.eq (mem_at 5 rfl) (mem_at 0 rfl) (fun y => by (try dsimp only); cases A y <;> cases B y <;> cases C y <;> rfl)
  subst e
  have HS2 := Lib.hid (And.intro hS (HS.out.2.trans hF))
  clear hE hS hF hr HS
  have HS := HS2
  clear HS2
  go_wp2_with fail
  refine (one_ok a _).mono ?_
  rintro e w2 ⟨rfl, rfl⟩
  go_wp2_with fail
  refine (not_ses HS.out.1 (by omega) (mem_at 9 rfl)).mono ?_
  rintro e w1 hE
  obtain ⟨u1, rfl, hr, hS, hF⟩ := hE.ex
  have HS2 := Lib.hid (And.intro hS (HS.out.2.trans hF))
  clear hE hS hF hr HS
  have HS := HS2
  clear HS2
  go_wp2_with fail
  refine (one_ok u1 _).mono ?_
  rintro e w2 ⟨rfl, rfl⟩
  go_wp2_with fail
  refine (or_ses HS.out.1 (by omega) (mem_at 13 rfl) (mem_at 12 rfl)).mono ?_
  rintro e w1 hE
  obtain ⟨u2, rfl, hr, hS, hF⟩ := hE.ex
  have e : u1 = u2 := hS.eq (mem_at 1 rfl) (mem_at 0 rfl) (fun y => by (try dsimp only); cases A y <;> cases B y <;> cases C y <;> rfl)
  subst e
  have HS2 := Lib.hid (And.intro hS (HS.out.2.trans hF))
  clear hE hS hF hr HS
  have HS := HS2
  clear HS2
  go_wp2_with fail
  refine (one_ok u1 _).mono ?_
  rintro e w2 ⟨rfl, rfl⟩
  go_wp2_with fail
  refine (not_ses HS.out.1 (by omega) (mem_at 9 rfl)).mono ?_
  rintro e w1 hE
  obtain ⟨u3, rfl, hr, hS, hF⟩ := hE.ex
  have HS2 := Lib.hid (And.intro hS (HS.out.2.trans hF))
  clear hE hS hF hr HS
  have HS := HS2
  clear HS2
  go_wp2_with fail
  refine (one_ok u3 _).mono ?_
  rintro e w2 ⟨rfl, rfl⟩
  go_wp2_with fail
  refine (and_ses HS.out.1 (by omega) (mem_at 15 rfl) (mem_at 14 rfl)).mono ?_
  rintro e w1 hE
  obtain ⟨u4, rfl, hr, hS, hF⟩ := hE.ex
  have e : u3 = u4 := hS.eq (mem_at 1 rfl) (mem_at 0 rfl) (fun y => by (try dsimp only); cases A y <;> cases B y <;> cases C y <;> rfl)
  subst e
  have HS2 := Lib.hid (And.intro hS (HS.out.2.trans hF))
  clear hE hS hF hr HS
  have HS := HS2
  clear HS2
  go_wp2_with fail
  refine (one_ok u3 _).mono ?_
  rintro e w2 ⟨rfl, rfl⟩
  go_wp2_with fail
  refine (or_ses HS.out.1 (by omega) (mem_at 18 rfl) (mem_at 19 rfl)).mono ?_
  rintro e w1 hE
  obtain ⟨v1, rfl, hr, hS, hF⟩ := hE.ex
  have HS2 := Lib.hid (And.intro hS (HS.out.2.trans hF))
  clear hE hS hF hr HS
  have HS := HS2
  clear HS2
  go_wp2_with fail
  refine (one_ok v1 _).mono ?_
  rintro e w2 ⟨rfl, rfl⟩
  go_wp2_with fail
  refine (and_ses HS.out.1 (by omega) (mem_at 5 rfl) (mem_at 0 rfl)).mono ?_
  rintro e w1 hE
  obtain ⟨v2, rfl, hr, hS, hF⟩ := hE.ex
  have HS2 := Lib.hid (And.intro hS (HS.out.2.trans hF))
  clear hE hS hF hr HS
  have HS := HS2
  clear HS2
  go_wp2_with fail
  refine (one_ok v2 _).mono ?_
  rintro e w2 ⟨rfl, rfl⟩
  go_wp2_with fail
  refine (and_ses HS.out.1 (by omega) (mem_at 6 rfl) (mem_at 21 rfl)).mono ?_
  rintro e w1 hE
  obtain ⟨v3, rfl, hr, hS, hF⟩ := hE.ex
  have HS2 := Lib.hid (And.intro hS (HS.out.2.trans hF))
  clear hE hS hF hr HS
  have HS := HS2
  clear HS2
  go_wp2_with fail
  refine (one_ok v3 _).mono ?_
  rintro e w2 ⟨rfl, rfl⟩
  go_wp2_with fail
  refine (or_ses HS.out.1 (by omega) (mem_at 16 rfl) (mem_at 0 rfl)).mono ?_
  rintro e w1 hE
  obtain ⟨v4, rfl, hr, hS, hF⟩ := hE.ex
  have e : v2 = v4 := hS.eq (mem_at 2 rfl) (mem_at 0 rfl) (fun y => by (try dsimp only); cases A y <;> cases B y <;> cases C y <;> rfl)
  subst e
  have HS2 := Lib.hid (And.intro hS (HS.out.2.trans hF))
  clear hE hS hF hr HS
  have HS := HS2
  clear HS2
  go_wp2_with fail
  refine (one_ok v2 _).mono ?_
  rintro e w2 ⟨rfl, rfl⟩
  go_wp2_with fail
  refine (xor_ses HS.out.1 (by omega) (mem_at 12 rfl) (mem_at 23 rfl)).mono ?_
  rintro e w1 hE
  obtain ⟨x1, rfl, hr, hS, hF⟩ := hE.ex
  have HS2 := Lib.hid (And.intro hS (HS.out.2.trans hF))
  clear hE hS hF hr HS
  have HS := HS2
  clear HS2
  go_wp2_with fail
  refine (one_ok x1 _).mono ?_
  rintro e w2 ⟨rfl, rfl⟩
  go_wp2_with fail
  refine (xor_ses HS.out.1 (by omega) (mem_at 23 rfl) (mem_at 24 rfl)).mono ?_
  rintro e w1 hE
  obtain ⟨x2, rfl, hr, hS, hF⟩ := hE.ex
  have HS2 := Lib.hid (And.intro hS (HS.out.2.trans hF))
  clear hE hS hF hr HS
  have HS := HS2
  clear HS2
  go_wp2_with fail
  refine (one_ok x2 _).mono ?_
  rintro e w2 ⟨rfl, rfl⟩
  go_wp2_with fail
  refine (xor_ses HS.out.1 (by omega) (mem_at 10 rfl) (mem_at 0 rfl)).mono ?_
  rintro e w1 hE
  obtain ⟨x3, rfl, hr, hS, hF⟩ := hE.ex
  have e : x1 = x3 := hS.eq (mem_at 2 rfl) (mem_at 0 rfl) (fun y => by (try dsimp only); cases A y <;> cases B y <;> cases C y <;> rfl)
  subst e
  have HS2 := Lib.hid (And.intro hS (HS.out.2.trans hF))
  clear hE hS hF hr HS
  have HS := HS2
  clear HS2
  go_wp2_with fail
  refine (one_ok x1 _).mono ?_
  rintro e w2 ⟨rfl, rfl⟩
  go_wp2_with fail
  refine (and_ses HS.out.1 (by omega) (mem_at 11 rfl) (mem_at 22 rfl)).mono ?_
  rintro e w1 hE
  obtain ⟨y1, rfl, hr, hS, hF⟩ := hE.ex
  have HS2 := Lib.hid (And.intro hS (HS.out.2.trans hF))
  clear hE hS hF hr HS
  have HS := HS2
  clear HS2
  go_wp2_with fail
  refine (one_ok y1 _).mono ?_
  rintro e w2 ⟨rfl, rfl⟩
  go_wp2_with fail
  refine (and_ses HS.out.1 (by omega) (mem_at 24 rfl) (mem_at 26 rfl)).mono ?_
  rintro e w1 hE
  obtain ⟨y2, rfl, hr, hS, hF⟩ := hE.ex
  have HS2 := Lib.hid (And.intro hS (HS.out.2.trans hF))
  clear hE hS hF hr HS
  have HS := HS2
  clear HS2
  go_wp2_with fail
  refine (one_ok y2 _).mono ?_
  rintro e w2 ⟨rfl, rfl⟩
  go_wp2_with fail
  refine (or_ses HS.out.1 (by omega) (mem_at 1 rfl) (mem_at 0 rfl)).mono ?_
  rintro e w1 hE
  obtain ⟨y3, rfl, hr, hS, hF⟩ := hE.ex
  have e : xab = y3 := hS.eq (mem_at 18 rfl) (mem_at 0 rfl) (fun y => by (try dsimp only); cases A y <;> cases B y <;> cases C y <;> rfl)
  subst e
  have HS2 := Lib.hid (And.intro hS (HS.out.2.trans hF))
  clear hE hS hF hr HS
  have HS := HS2
  clear HS2
  go_wp2_with fail
  refine (one_ok xab _).mono ?_
  rintro e w2 ⟨rfl, rfl⟩
  go_wp2_with fail
  go_ret
  exact ⟨rfl, Fro.upd HUB.out HLE.out HS.out.2⟩
end Go.Proofs.YtnenhecnkidnpaaGreat


/- A State as it is handed in: its cells, and its rows. -/
namespace Go.Proofs.YtnenhecnkidnpaaGreat
open Go.ChangeShapes Go.WideShapes Go.ChangeAt Go.RowKit

theorem own_knob : ownKnob Tryz.prog.godebug = none := by kernel_rfl
theorem laid_out : laidOutB Tryz.prog = true := by kernel_rfl

theorem okWide_row {P : Program} {w : World} {r : Reach} {base : Nat} {t : TypeId} {v : Value} {fs : Array Field} (ht : P.underlying t = some (.struct fs)) (h : Value.okWide P w r base t v) : ∃ cs, v = .agg cs ∧ cs.size = P.cellsOf t ∧ Row.okWide P w r base t cs := by
  unfold Value.okWide at h
  rw [ht] at h
  exact h

theorem stateSize : Tryz.prog.cellsOf 25 = 4 := by kernel_rfl
theorem intSize : Tryz.prog.cellsOf 3 = 1 := by kernel_rfl
theorem u64Size : Tryz.prog.cellsOf 65 = 1 := by kernel_rfl
theorem intsSize : Tryz.prog.cellsOf 22 = 1 := by kernel_rfl
theorem u64sSize : Tryz.prog.cellsOf 23 = 1 := by kernel_rfl

theorem wf_u64 {x : Int} (h : (Lit.int .u64 x).wf = true) : U64 x := by
  simp only [Lit.wf, Bool.and_eq_true, decide_eq_true_eq] at h
  have e1 : IntKind.u64.min = 0 := rfl
  have e2 : IntKind.u64.max = 18446744073709551615 := rfl
  unfold U64
  omega

theorem RowOf.of_ints {H : Type} {W : World} {k : IntKind} {cs : List Value} {x : DataW H × List MemPlace}
    (h : (cs = [.slice none 0 0] ∧ x = (.nil, [])) ∨
    ∃ (a : Addr) (len cap : Nat) (zs : List Int), cs = [.slice (some a) len cap] ∧ 0 ≤ a.block ∧ len ≤ cap ∧ cap ≤ maxLen ∧ zs.length = (if (fun _ : Nat => true) a.block then cap else len) ∧
      x = (.slice (lits k (zs.take len)) (lits k (zs.drop len)), MemPlace.row a zs.length) ∧
      (∀ i, i < zs.length → W.cell? (a.add i) = some (.int k (zs.getD i 0))) ∧ (∀ n ∈ zs, (Lit.int k n).wf = true)) :
    ∃ (a : Option Addr) (n c : Nat) (Zs : List Int), cs = [.slice a n c] ∧ RowOf W k a n Zs ∧ ∀ z, z ∈ Zs → (Lit.int k z).wf = true := by
  rcases h with ⟨rfl, _⟩ | ⟨a, len, cap, zs, rfl, _, hl, hm, hz, _, hc, hw⟩
  · exact ⟨none, 0, 0, [], rfl, ⟨rfl, Nat.zero_le _, fun i hi => by omega⟩, fun z hz => by cases hz⟩
  · have hz' : zs.length = cap := by simpa using hz
    refine ⟨some a, len, cap, zs.take len, rfl, ⟨by rw [List.length_take]; omega, by omega, fun i hi => ⟨a, rfl, ?_⟩⟩, fun z hz => hw z (List.mem_of_mem_take hz)⟩
    rw [hc i (by omega), List.getD_eq_getElem?_getD, List.getD_eq_getElem?_getD, List.getElem?_take_of_lt hi]

set_option maxRecDepth 100000 in
/-- what a state is, as a value -/
theorem state_shape {H : Type} {enc : TypeId × Value → H} {W : World} {r : Reach} {base : Nat} {v : Value} {d : DataW H} {p : List MemPlace} (h : Value.okWide Tryz.prog W r base 25 v) (hd : DataW.Trod enc Tryz.prog W 0 (fun _ => true) true 25 v d p) :
    ∃ (n room : Int) (la wa : Option Addr) (ln lc wn wk : Nat) (Ls Ws : List Int), v = .agg #[.int .i64 n, .int .i64 room, .slice la ln lc, .slice wa wn wk] ∧ RowOf W .i64 la ln Ls ∧ RowOf W .u64 wa wn Ws ∧ ∀ x, x ∈ Ws → U64 x := by
  obtain ⟨cs, rfl, hsz, _⟩ := okWide_row Tryz.underlying25 h
  obtain ⟨fuel, hd⟩ := hd
  have hsz := hsz.trans stateSize
  obtain ⟨l⟩ := cs
  match l, hsz with
  | [c0, c1, c2, c3], _ =>
    obtain ⟨ys, m, _, _, _, hl, hf⟩ := Go.DataW.trod_struct Tryz.underlying25 hd
    match ys, hl with
    | [y0, y1, y2, y3], _ =>
      have h0 := hf 0 _ rfl
      have h1 := hf 1 _ rfl
      have h2 := hf 2 _ rfl
      have h3 := hf 3 _ rfl
      simp [Value.cells, intSize, intsSize, u64sSize] at h0 h1 h2 h3
      obtain ⟨n, e0, _, _⟩ := Go.DataW.trod_int Tryz.underlying3 h0
      obtain ⟨room, e1, _, _⟩ := Go.DataW.trod_int Tryz.underlying3 h1
      obtain ⟨la, ln, lc, Ls, e2, hL, _⟩ := RowOf.of_ints (open_ints Tryz.underlying22 Tryz.underlying3 intSize h2)
      obtain ⟨wa, wn, wk, Ws, e3, hW, hU⟩ := RowOf.of_ints (open_ints Tryz.underlying23 Tryz.underlying65 u64Size h3)
      simp at e0 e1 e2 e3
      subst e0 e1 e2 e3
      exact ⟨n, room, la, wa, ln, lc, wn, wk, Ls, Ws, rfl, hL, hW, fun x hx => wf_u64 (hU x hx)⟩
end Go.Proofs.YtnenhecnkidnpaaGreat

