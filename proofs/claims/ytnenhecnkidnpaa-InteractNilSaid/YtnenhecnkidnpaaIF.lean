/- interact.Free. -/
import Derived.Test.YtnenhecnkidnpaaIM
namespace Go.Proofs.Ytnenhecnkidnpaa
open Go.RowKit Go.Maps Go.ChangeMaps Go.WideShapes

theorem Try.infoRefF : (Try.prog.info? 27).map (fun i => (i.zero, i.size, i.bytes)) = some (some (.int .u32 0), 1, 4) := by kernel_rfl

/-- the variable that a Ref tells, -1 of a constant -/
def KV.vr (K : KV) (r : Nat) : Int := match K.A.list[r]? with | some p => p.var | none => -1

theorem KV.vr_at {K : KV} {r : Nat} {p : PlaceV} (h : K.A.list[r]? = some p) : K.vr r = p.var := by simp [KV.vr, h]

theorem KV.Wf.const_var {K : KV} {P : List Nat} (h : K.Wf P) {r : Nat} {p : PlaceV} (h2 : r < 2) (hp : K.A.list[r]? = some p) : p.var = -1 := by
  match r, h2 with
  | 0, _ => rw [h.ok.c0] at hp; cases hp; rfl
  | 1, _ => rw [h.ok.c1] at hp; cases hp; rfl

/-- no node of u has a child of x -/
def KV.FreeN (K : KV) (u x : Int) (p : PlaceV) : Prop := ¬ (p.var = u ∧ (K.vr p.lo = x ∨ K.vr p.hi = x))
def KV.FreeUV (K : KV) (u x : Int) : Prop := ∀ (r : Nat) (p : PlaceV), 2 ≤ r → K.A.list[r]? = some p → p.taken = true → K.FreeN u x p

/-- where Free stands -/
structure FreeI (K : KV) (u x : Int) (Td : List Nat) (i : Nat) (V : List Nat) : Prop where
  il : i ≤ Td.length
  tk : ∀ r, r ∈ Td → K.A.tk r = true
  rt : ∀ r, r ∈ K.roots → r ∈ Td
  vt : ∀ r, r ∈ V ↔ r ∈ Td.take i
  nd : V.Nodup
  ln : Td.length ≤ K.roots.length + 2 * V.length
  kid : ∀ (r : Nat) (p : PlaceV), r ∈ V → 2 ≤ r → K.A.list[r]? = some p → p.lo ∈ Td ∧ p.hi ∈ Td
  ok : ∀ (r : Nat) (p : PlaceV), r ∈ V → 2 ≤ r → K.A.list[r]? = some p → K.FreeN u x p

theorem FreeI.start {K : KV} {u x : Int} (h : ∀ r, r ∈ K.roots → K.A.tk r = true) : FreeI K u x K.roots 0 [] :=
  ⟨by omega, h, fun r h => h, fun r => by simp, by simp, by simp, fun r p h => by simp at h, fun r p h => by simp at h⟩

theorem FreeI.vlen {K : KV} {u x : Int} {Td V : List Nat} {i : Nat} (h : FreeI K u x Td i V) (hw : K.Wf []) : V.length ≤ 1048576 := by
  have h1 := K.used_ge hw h.nd fun r hr => h.tk r (List.mem_of_mem_take ((h.vt r).1 hr))
  have h2 := hw.ok.us
  have h3 := hw.ok.lp
  have h4 := hw.ok.pm
  omega

theorem FreeI.skip {K : KV} {u x : Int} {Td V : List Nat} {i r : Nat} (h : FreeI K u x Td i V) (hr : Td[i]? = some r) (hin : r ∈ V) : FreeI K u x Td (i + 1) V := by
  have hi : i < Td.length := by
    by_cases h : i < Td.length
    · exact h
    · rw [List.getElem?_eq_none (by omega)] at hr; cases hr
  refine ⟨hi, h.tk, h.rt, fun s => ?_, h.nd, h.ln, h.kid, h.ok⟩
  rw [List.take_add_one, hr, h.vt]
  simp only [Option.toList_some, List.mem_append, List.mem_singleton]
  refine ⟨.inl, ?_⟩
  rintro (h1 | rfl)
  · exact h1
  · exact (h.vt s).1 hin

theorem FreeI.const {K : KV} {u x : Int} {Td V : List Nat} {i r : Nat} (h : FreeI K u x Td i V) (hr : Td[i]? = some r) (hin : r ∉ V) (h2 : r < 2) : FreeI K u x Td (i + 1) (V ++ [r]) := by
  have hi : i < Td.length := by
    by_cases h : i < Td.length
    · exact h
    · rw [List.getElem?_eq_none (by omega)] at hr; cases hr
  refine ⟨hi, h.tk, h.rt, fun s => ?_, ?_, by have := h.ln; simp; omega, fun s p hs hs2 => ?_, fun s p hs hs2 => ?_⟩
  · rw [List.take_add_one, hr, List.mem_append, h.vt]
    simp
  · rw [List.nodup_append]
    refine ⟨h.nd, by simp, fun a ha c hc => ?_⟩
    simp at hc; subst hc
    rintro rfl; exact hin ha
  · simp at hs; rcases hs with hs | rfl
    · exact h.kid s p hs hs2
    · omega
  · simp at hs; rcases hs with hs | rfl
    · exact h.ok s p hs hs2
    · omega

theorem FreeI.node {K : KV} {u x : Int} {Td V : List Nat} {i r : Nat} {p : PlaceV} (h : FreeI K u x Td i V) (hr : Td[i]? = some r) (hin : r ∉ V) (hp : K.A.list[r]? = some p) (t0 : K.A.tk p.lo = true) (t1 : K.A.tk p.hi = true) (hF : K.FreeN u x p) :
    FreeI K u x (Td ++ [p.lo, p.hi]) (i + 1) (V ++ [r]) := by
  have hi : i < Td.length := by
    by_cases h : i < Td.length
    · exact h
    · rw [List.getElem?_eq_none (by omega)] at hr; cases hr
  refine ⟨by simp; omega, fun s hs => ?_, fun s hs => by simp [h.rt s hs], fun s => ?_, ?_, by have := h.ln; simp; omega, fun s c hs hs2 hc => ?_, fun s c hs hs2 hc => ?_⟩
  · simp at hs; rcases hs with hs | rfl | rfl
    · exact h.tk s hs
    · exact t0
    · exact t1
  · rw [List.take_append_of_le_length (by omega), List.take_add_one, hr, List.mem_append, h.vt]
    simp
  · rw [List.nodup_append]
    refine ⟨h.nd, by simp, fun a ha c hc => ?_⟩
    simp at hc; subst hc
    rintro rfl; exact hin ha
  · simp at hs; rcases hs with hs | rfl
    · have := h.kid s c hs hs2 hc
      exact ⟨by simp [this.1], by simp [this.2]⟩
    · rw [hp] at hc; cases hc
      exact ⟨by simp, by simp⟩
  · simp at hs; rcases hs with hs | rfl
    · exact h.ok s c hs hs2 hc
    · rw [hp] at hc; cases hc
      exact hF

theorem FreeI.done {K : KV} {u x : Int} {Td V : List Nat} (hk : K.Ok) (h : FreeI K u x Td Td.length V) : K.FreeUV u x := by
  have hv : ∀ r, K.Reach r → r ∈ V := by
    intro r hr
    induction hr with
    | root hh => exact (h.vt _).2 (by rw [List.take_length]; exact h.rt _ (KV.mem_roots.2 hh))
    | lo _ h2 hp _ ih => exact (h.vt _).2 (by rw [List.take_length]; exact (h.kid _ _ ih h2 hp).1)
    | hi _ h2 hp _ ih => exact (h.vt _).2 (by rw [List.take_length]; exact (h.kid _ _ ih h2 hp).2)
  intro r p h2 hp hpt
  exact h.ok r p (hv r (KV.live_reach hk.wf hk.pos hk.ord _ r h2 (ArenaV.tk_iff.2 ⟨p, hp, hpt⟩) (Nat.le_refl _))) h2 hp

/-- what has been seen, whatever stands at it -/
structure SeenF (V : List Nat) (D : DM) : Prop where
  im : IsMap D
  has : ∀ r : Nat, r ≤ 4294967295 → (Maps.has D (.int .u32 r) = true ↔ r ∈ V)
  dom : ∀ k, Maps.has D k = true → ∃ r : Nat, k = .int .u32 r ∧ r < 1048576

theorem SeenF.nil : SeenF [] (.map []) := ⟨isMap_empty, fun r _ => by simp [Maps.has], fun k h => by simp [Maps.has] at h⟩

theorem SeenF.put {V : List Nat} {D : DM} {r : Nat} (h : SeenF V D) (hr : r < 1048576) (d : DM) : SeenF (V ++ [r]) (D.put (.int .u32 r) d) := by
  have hl : WideAt.IsKeyLit (.int .u32 (r : Int)) := trivial
  have inj : ∀ x : Nat, x ≠ r → (Lit.int .u32 (x : Int)) ≠ .int .u32 (r : Int) := fun x hx e => hx (by simp at e; omega)
  refine ⟨h.im.put _ _, fun x hx => ?_, fun k hk => ?_⟩
  · by_cases e : x = r
    · subst e; simp [has_put_same h.im hl]
    · rw [has_put_other (inj x e), h.has x hx]; simp [e]
  · by_cases e : k = .int .u32 (r : Int)
    · exact ⟨r, e, hr⟩
    · rw [has_put_other e] at hk; exact h.dom k hk

theorem seenF_size {V : List Nat} {D : DM} (h : SeenF V D) (hc : Maps.Canon D) (ht : Tidy D) : Maps.size D < maxLen := by
  have := size_le_keys hc (ks := (List.range 1048576).map fun (r : Nat) => Lit.int .u32 (r : Int)) (fun k hk => by
    obtain ⟨r, rfl, hr⟩ := h.dom k hk
    exact List.mem_map.2 ⟨r, List.mem_range.2 hr, rfl⟩) ht
  simp only [List.length_map, List.length_range] at this
  unfold maxLen; omega

/-- Free's post -/
structure FreeQ (K : KV) (u x : Int) (w : World) (e : Ending) (w' : World) : Prop where
  ex : ∃ B : Bool, e = .returned (.tuple #[.bool B, .int .i64 0]) ∧ (B = true ↔ K.FreeUV u x) ∧ Upd [] w w'

/-- Free's memory -/
structure FreeM (b base mb : Nat) (K : KV) (T : List DM) (q : KPtr) (w : World) (s : Value) (Td V : List Nat) (wr : World) : Prop where
  row : wr.ownsRow base 27 1 s Td.length (flatRefs Td)
  map : ∃ D : DM, SeenF V D ∧ wr.ownsMap Try.prog 27 (plainElem Try.prog 3) mb (Maps.size D) D
  up : Upd [] w wr
  ker : KerIn wr b K T q
  bm : mb < base
  bw : w.heap.size ≤ mb

theorem FreeM.keep {b base mb : Nat} {K : KV} {T : List DM} {q : KPtr} {w : World} {s : Value} {Td V : List Nat} {wr w2 : World} (h : FreeM b base mb K T q w s Td V wr) (u : Upd [] wr w2) : FreeM b base mb K T q w s Td V w2 := by
  obtain ⟨D, hS, hm⟩ := h.map
  exact ⟨row_keep h.row fun k hk => u.block k (h.row.lt k hk).2 (by simp), ⟨D, hS, own_keep hm (u.block _ hm.lt (by simp))⟩, h.up.trans u, h.ker.upd u (by simp), h.bm, h.bw⟩

theorem free_nil (l : Int) (w : World) : Calls Try.prog 7 #[.pointer none, .int .i64 l] w fun e w' => e = .returned (.tuple #[.bool false, .int .i64 10]) ∧ Upd [] w w' := by
  go_enter Try.func7, Try.ntmps7
  go_wp2_with fail
  go_ret2
  exact ⟨rfl, Upd.refl _ _⟩

set_option maxRecDepth 100000 in
set_option maxHeartbeats 3200000 in
theorem free_spec (b l : Nat) (K : KV) (T : List DM) (q : KPtr) (w : World) (h : KerIn w b K T q) (hl : l + 2 ≤ K.vars) (u x : Nat) (hu : K.order.getD l 0 = u) (hx : K.order.getD (l + 1) 0 = x) :
    Calls Try.prog 7 #[.pointer (some ⟨b, 0, none⟩), .int .i64 l] w fun e w' => FreeQ K u x w e w' := by
  obtain ⟨ti, hi0, hz0, hz1', hz2⟩ := info_parts Try.infoRefF
  have HI := Lib.hid (And.intro hi0 (And.intro hz0 (And.intro hz1' hz2)))
  have HK := Lib.hid h
  have hol := h.ok.ord.pm.ol
  have hvs := h.ok.wf.vs
  clear h hi0 hz0 hz1' hz2
  go_enter Try.func7, Try.ntmps7
  go_wp2_with fail
  refine (order_spec b K T q w HK.out.mem (by omega) (by omega)).mono ?_
  rintro e w1 ⟨go, gc, rfl, hor, hu1⟩
  rw [hol]
  have hd1 : decide ((l : Int) < 0) = false := by simp
  have hd2 : ¬ ((l : Int) < 0) := by omega
  have hd3 : ¬ ((K.vars : Int) - 2 < (l : Int)) := by omega
  have hd4 : IntKind.i64.wrap ((K.vars : Int) - 2) = (K.vars : Int) - 2 := IntWalk.i64_in _ (by omega)
  have hd5 : IntKind.i64.wrap ((l : Int) + 1) = (l : Int) + 1 := IntWalk.i64_in _ (by omega)
  have hd6 : (l : Int) < (K.vars : Int) := by omega
  have hd7 : (l : Int) + 1 < (K.vars : Int) := by omega
  have hd8 : 0 ≤ (l : Int) + 1 := by omega
  have co0 := row_cell hor (j := l) (u := .int .i64 u) (by simp [flatN, ← hu, List.getElem?_eq_getElem (show l < K.order.length by omega)])
  have co1 := row_cell hor (j := l + 1) (u := .int .i64 x) (by simp [flatN, ← hx, List.getElem?_eq_getElem (show l + 1 < K.order.length by omega)])
  have HU1 := Lib.hid hu1
  clear hor hu1
  go_wp2_with fail
  go_region
  have hmm := @run_makeMap Try.prog
  have HUM := Lib.hid ((HU1.out.drew).alloc (.map #[] 0))
  have HMP := own_emptyR (heap_alloc_new w1.drew (.map #[] 0))
  have hms := HU1.out.size
  go_wp2_with fail
  refine (roots_spec b K T q _ (HK.out.upd HUM.out (by simp))).mono ?_
  rintro e w3 ⟨lv, rfl, hr3, hu3⟩
  obtain ⟨fa, fc, rfl, _⟩ := row_nil_len hr3
  obtain ⟨mb, hmb⟩ : ∃ mb, w1.heap.size = mb := ⟨_, rfl⟩
  have hbase : (w1.drew.alloc (.map #[] 0)).heap.size = mb + 1 := by rw [World.size_alloc, ← hmb]; rfl
  rw [hbase] at hr3
  have hmd : w1.drew.heap.size = mb := hmb
  rw [hmd] at HMP
  have HM3 : Hid (FreeM b (mb + 1) mb K T q w (.slice fa K.roots.length fc) K.roots [] w3) :=
    ⟨hr3, ⟨_, SeenF.nil, own_keep HMP (hu3.block _ HMP.lt (by simp))⟩, HUM.out.trans hu3, HK.out.upd (HUM.out.trans hu3) (by simp), by omega, by omega⟩
  have HF3 : Hid (FreeI K u x K.roots 0 []) := FreeI.start fun r hr => (HK.out.ok.wf.ht r (KV.mem_roots.1 hr)).2
  have hrl : K.roots.length ≤ 1048576 := by
    have h1 := HK.out.ok.wf.len
    have h2 := HK.out.ok.wf.ul
    have h3 := HK.out.ok.wf.ok.lp
    have h4 := HK.out.ok.wf.ok.pm
    have h5 := K.rootsI_len K.holds.length
    show (K.rootsI _).length ≤ _
    omega
  clear hr3 hu3 HMP HUM hms co0 co1 hd1 hd2 hd3 hd4 hd5 hd6 hd7 hd8 HU1 hbase
  rw [hmb]
  clear hmd hmb
  go_wp2_with fail
  go_loopg [10, 11] (3 * 1048576 + K.roots.length) (fun gg s10 s11 wr => ∃ (Td V : List Nat) (i : Nat), 3 * (1048576 - V.length) + (Td.length - i) = gg ∧ s11 = .int .i64 i ∧ FreeI K u x Td i V ∧ FreeM b (mb + 1) mb K T q w s10 Td V wr)
  case atStart => exact ⟨K.roots, [], 0, by simp, rfl, HF3.out, HM3.out⟩
  case round =>
    obtain ⟨Td, V, i, rfl, rfl, hF, hM⟩ := hrel
    have hvl := hF.vlen HK.out.ok.wf
    have htl := hF.ln
    obtain ⟨fa, fc, hv, _⟩ := row_nil_len hM.row
    subst hv
    by_cases hlt : i < Td.length
    · have hil : (i : Int) < (Td.length : Int) := by omega
      obtain ⟨r, hr⟩ : ∃ r, Td[i]? = some r := ⟨_, List.getElem?_eq_getElem hlt⟩
      have htk := hF.tk r (List.mem_of_getElem? hr)
      have hrl := HK.out.ok.ref_lt htk
      have hr32 : r ≤ 4294967295 := by omega
      obtain ⟨gr, rfl⟩ := row_some hM.row (by omega)
      have cr := row_cell hM.row (j := i) (u := .int .u32 r) (by simp [flatRefs, hr])
      obtain ⟨D, hS, hmap⟩ := hM.map
      obtain ⟨v, ps, hrun, hvv⟩ := hmap.look_ok refKeyed Try.underlying51 (zeroInt wr) (plainElem_int Try.underlying3 (by decide)) (keyOf_int_mk Try.underlying27 (wfR hr32))
      by_cases hin : r ∈ V
      · rw [(hS.has r hr32).2 hin] at hrun
        have HE := Lib.hid (And.intro (hF.skip hr hin) hM)
        clear hF hM hS hmap hvv hr htk hin
        go_wp2_with fail
        go_roundg (3 * (1048576 - V.length) + (Td.length - (i + 1)))
        case measure => omega
        case rel => exact ⟨Td, V, i + 1, rfl, by simp, HE.out⟩
      · have hno : Maps.has D (.int .u32 r) = false := by
          cases e : Maps.has D (.int .u32 r) with
          | false => rfl
          | true => exact absurd ((hS.has r hr32).1 e) hin
        rw [hno] at hrun
        have hsz := seenF_size hS (hmap.canon refKeyed) (hmap.tidy refKeyed)
        obtain ⟨w9, hrun9, hown, hturn⟩ := hmap.store refKeyed Try.underlying51 hsz (keyOf_int_mk Try.underlying27 (wfR hr32)) (plainElem_int (H := Unit) Try.underlying3 (wfI (n := i) (by omega) (by omega)))
        have hu9 := upd_turned hturn
        obtain ⟨p, hp, hpt⟩ := ArenaV.tk_iff.1 htk
        have hM9 : Hid (FreeM b (mb + 1) mb K T q w (.slice (some ⟨gr, 0, none⟩) Td.length fc) Td (V ++ [r]) w9) := by
          have hu : Upd [] w w9 := hM.up.then hu9 fun k hk => by simp at hk; subst hk; right; exact hM.bw
          have hbq : ∀ k, k ∈ q.all b → k ∉ [mb] := fun k hk hm => by
            simp at hm; subst hm
            have := HK.out.mem.lt _ hk
            have := hM.bw
            omega
          refine ⟨row_keep hM.row fun k hk => hu9.block k (hM.row.lt k hk).2 ?_, ⟨_, hS.put hrl _, own_tight hown⟩, hu, hM.ker.upd hu9 hbq, hM.bm, hM.bw⟩
          have := (hM.row.lt k hk).1
          simp; omega
        have HP := Lib.hid (And.intro hp (And.intro hpt (And.intro hF hr)))
        clear hF hM hS hmap hvv htk hown hturn hu9 hsz hno hp hpt
        go_wp2_with fail
        refine (nodeof_yes b r K T q p w9 hM9.out.ker.mem hr32 HP.out.1 HP.out.2.1).mono ?_
        rintro e w10 ⟨rfl, hu10⟩
        have hbx := heap_alloc_new w10 (.cells #[.int .i64 p.var, .int .u32 p.lo, .int .u32 p.hi] 55 (0, 0))
        have x0 := cell_at (j := 0) hbx rfl
        have x1 := cell_at (j := 1) hbx rfl
        have x2 := cell_at (j := 2) hbx rfl
        have HM10 := Lib.hid ((hM9.out.keep hu10).keep ((Upd.refl [] w10).alloc (.cells #[.int .i64 p.var, .int .u32 p.lo, .int .u32 p.hi] 55 (0, 0))))
        by_cases h2 : r < 2
        · have hpv : p.var = -1 := HK.out.ok.wf.const_var h2 HP.out.1
          have HE := Lib.hid (And.intro (HP.out.2.2.1.const HP.out.2.2.2 hin h2) HM10.out)
          generalize p.var = pv at *
          subst hpv
          clear hu10 HM10 hM9
          go_wp2_with fail
          go_roundg (3 * (1048576 - (V ++ [r]).length) + (Td.length - (i + 1)))
          case measure => simp; omega
          case rel => exact ⟨Td, V ++ [r], i + 1, rfl, by simp, HE.out⟩
        · have hcl := HK.out.ok.wf.cl r p (by omega) HP.out.1 HP.out.2.1
          have hvr := HK.out.ok.wf.vr r p (by omega) HP.out.1 HP.out.2.1
          have hd1 : decide (p.var < 0) = false := by simp; omega
          have hd2 : ¬ (p.var < 0) := by omega
          have hns := heap_alloc_new (w10.alloc (.cells #[.int .i64 p.var, .int .u32 p.lo, .int .u32 p.hi] 55 (0, 0))) (.cells #[.int .u32 p.lo, .int .u32 p.hi] 27 (0, 0))
          rw [World.size_alloc] at hns
          have hbx2 := (heap_alloc_old _ (.cells #[.int .u32 p.lo, .int .u32 p.hi] 27 (0, 0)) (heap_lt hbx)).trans hbx
          have HB := Lib.hid (And.intro hbx2 hns)
          have HM11 := Lib.hid (HM10.out.keep ((Upd.refl [] _).alloc (.cells #[.int .u32 p.lo, .int .u32 p.hi] 27 (0, 0))))
          have HCL := Lib.hid (And.intro hcl hvr)
          clear hu10 HM10 hM9 hns hbx2 hbx hcl hvr cr hrun hrun9
          go_wp2_with fail
          go_loopg [81] 2 (fun gg s81 wr2 => ∃ j : Nat, 2 - j = gg ∧ j ≤ 2 ∧ s81 = .int .i64 j ∧ (∀ (j' c : Nat), j' < j → [p.lo, p.hi][j']? = some c → ¬ (p.var = u ∧ K.vr c = x)) ∧ FreeM b (mb + 1) mb K T q w (.slice (some ⟨gr, 0, none⟩) Td.length fc) Td (V ++ [r]) wr2 ∧ Upd [] ((w10.alloc (.cells #[.int .i64 p.var, .int .u32 p.lo, .int .u32 p.hi] 55 (0, 0))).alloc (.cells #[.int .u32 p.lo, .int .u32 p.hi] 27 (0, 0))) wr2)
          case atStart => exact ⟨0, by omega, by omega, rfl, fun j' c hj => by omega, HM11.out, Upd.refl _ _⟩
          case round =>
            obtain ⟨j, rfl, hj2, rfl, hno, hMj, hUj⟩ := hrel
            have ebx := (hUj.block _ (heap_lt HB.out.1) (by simp)).trans HB.out.1
            have ens := (hUj.block _ (heap_lt HB.out.2) (by simp)).trans HB.out.2
            have y0 := cell_at (j := 0) ebx rfl
            by_cases hj : j < 2
            · have hjl : (j : Int) < 2 := by omega
              obtain ⟨c, hc⟩ : ∃ c, [p.lo, p.hi][j]? = some c := ⟨_, List.getElem?_eq_getElem (show j < [p.lo, p.hi].length by simpa using hj)⟩
              have hcc : c = p.lo ∨ c = p.hi := by
                have := List.mem_of_getElem? hc
                simpa using this
              have htc : K.A.tk c = true := by
                rcases hcc with rfl | rfl
                · exact HCL.out.1.1
                · exact HCL.out.1.2
              have hcl := HK.out.ok.ref_lt htc
              obtain ⟨pc, hpc, hpct⟩ := ArenaV.tk_iff.1 htc
              have z0 : wr.cell? ⟨w10.heap.size + 1, j, none⟩ = some (.int .u32 c) := cell_at ens (by
                rcases j with _ | _ | j
                · simp at hc; subst hc; rfl
                · simp at hc; subst hc; rfl
                · omega)
              have HJ := Lib.hid (And.intro hno (And.intro hMj (And.intro hUj (And.intro ebx (And.intro hc (And.intro hpc hpct))))))
              have HCC := Lib.hid hcc
              clear hno hMj hUj ebx ens hc hpc hpct hcc htc
              go_wp2_with fail
              refine (nodeof_yes b c K T q pc wr HJ.out.2.1.ker.mem (by omega) HJ.out.2.2.2.2.2.1 HJ.out.2.2.2.2.2.2).mono ?_
              rintro e w12 ⟨rfl, hu12⟩
              have hbc := heap_alloc_new w12 (.cells #[.int .i64 pc.var, .int .u32 pc.lo, .int .u32 pc.hi] 55 (0, 0))
              have v0 := cell_at (j := 0) hbc rfl
              have ebx3 := (hu12.block _ (heap_lt HJ.out.2.2.2.1) (by simp)).trans HJ.out.2.2.2.1
              have ebx4 := (heap_alloc_old _ (.cells #[.int .i64 pc.var, .int .u32 pc.lo, .int .u32 pc.hi] 55 (0, 0)) (heap_lt ebx3)).trans ebx3
              have y4 := cell_at (j := 0) ebx4 rfl
              have HU12 := Lib.hid (hu12.alloc (.cells #[.int .i64 pc.var, .int .u32 pc.lo, .int .u32 pc.hi] 55 (0, 0)))
              have HV : Hid (K.vr c = pc.var) := KV.vr_at HJ.out.2.2.2.2.2.1
              clear hu12 hbc ebx3 ebx4 y0 z0
              by_cases hpu : p.var = u
              · have hb1 : (p.var == (u : Int)) = true := by simpa using hpu
                by_cases hcx : pc.var = x
                · have hb2 : (pc.var == (x : Int)) = true := by simpa using hcx
                  have HE : Hid (¬ K.FreeUV u x ∧ Upd [] w _) := ⟨fun h => h r p (by omega) HP.out.1 HP.out.2.1 ⟨hpu, by rcases HCC.out with e | e <;> rw [← e, HV.out] <;> simp [hcx]⟩, HJ.out.2.1.up.trans HU12.out⟩
                  clear hpu hcx
                  go_wp2_with fail
                  go_ret2
                  exact ⟨false, rfl, by simpa using HE.out.1, HE.out.2⟩
                · have hb2 : (pc.var == (x : Int)) = false := by simpa using hcx
                  have HE : Hid (∀ (j' c : Nat), j' < j + 1 → [p.lo, p.hi][j']? = some c → ¬ (p.var = u ∧ K.vr c = x)) := by
                    intro j' c' hj' hc' hh
                    by_cases h : j' < j
                    · exact HJ.out.1 j' c' h hc' hh
                    · obtain rfl : j' = j := by omega
                      rw [HJ.out.2.2.2.2.1] at hc'; cases hc'
                      exact hcx (by rw [← HV.out]; exact hh.2)
                  clear hpu hcx
                  go_wp2_with fail
                  go_roundg (2 - (j + 1))
                  case measure => omega
                  case rel => exact ⟨j + 1, rfl, by omega, by simp, HE.out, HJ.out.2.1.keep HU12.out, HJ.out.2.2.1.trans HU12.out⟩
              · have hb1 : (p.var == (u : Int)) = false := by simpa using hpu
                have HE : Hid (∀ (j' c : Nat), j' < j + 1 → [p.lo, p.hi][j']? = some c → ¬ (p.var = u ∧ K.vr c = x)) := fun j' c' hj' hc' hh => hpu hh.1
                clear hpu
                go_wp2_with fail
                go_roundg (2 - (j + 1))
                case measure => omega
                case rel => exact ⟨j + 1, rfl, by omega, by simp, HE.out, HJ.out.2.1.keep HU12.out, HJ.out.2.2.1.trans HU12.out⟩
            · obtain rfl : j = 2 := by omega
              have y1 := cell_at (j := 1) ebx rfl
              have y2 := cell_at (j := 2) ebx rfl
              have HJ : Hid (FreeI K u x (Td ++ [p.lo, p.hi]) (i + 1) (V ++ [r])) := by
                refine HP.out.2.2.1.node HP.out.2.2.2 hin HP.out.1 HCL.out.1.1 HCL.out.1.2 ?_
                rintro ⟨h1, h2 | h2⟩
                · exact hno 0 _ (by omega) rfl ⟨h1, h2⟩
                · exact hno 1 _ (by omega) rfl ⟨h1, h2⟩
              have HMJ := Lib.hid hMj
              have HC2 : Hid (∀ u, u ∈ [Value.int .u32 p.lo, Value.int .u32 p.hi] → u.oneCell' = true) := by
                intro u hu; simp at hu; rcases hu with rfl | rfl <;> rfl
              have hbs : mb + 1 ≤ (wr.alloc (.cells #[.int .u32 p.lo, .int .u32 p.hi] 27 (0, 0))).heap.size := by
                have := (hMj.row.lt gr rfl)
                rw [World.size_alloc]; omega
              clear hno hMj hUj ebx ens
              go_wp2_with (at_builtin; go_must (refine wpList_append_lies _ rfl (.tmp 102) (.tmp 107) 31 rfl (mb + 1) 27 ti _ 1 4 Try.underlying31 HI.out.1 HI.out.2.1 HI.out.2.2.1 HI.out.2.2.2 (by rfl) (by decide) _ Td.length (flatRefs Td) rfl (HMJ.out.row.alloc _) ⟨wr.heap.size, 0, none⟩ 2 2 [.int .u32 p.lo, .int .u32 p.hi] rfl rfl ?c1 HC2.out (by omega) (by unfold maxLen; omega) (by omega) hbs _ rfl ?_))
              case c1 => exact World.news_of_block (heap_alloc_new wr (.cells #[.int .u32 p.lo, .int .u32 p.hi] 27 (0, 0)))
              intro g5 cap w5 hown hgr hat hlt5
              have HE : Hid (FreeM b (mb + 1) mb K T q w (.slice (some ⟨g5, 0, none⟩) (Td.length + 2) cap) (Td ++ [p.lo, p.hi]) (V ++ [r]) w5) := by
                have hgl := HMJ.out.row.lt gr rfl
                have hu5 : Upd [gr] wr w5 := ((Upd.refl [gr] wr).alloc _).grown hgr fun k hk => .inl (by simp [Value.ownBlock] at hk; simp [hk])
                obtain ⟨D5, hS5, hm5⟩ := HMJ.out.map
                have hbw := HMJ.out.bw
                refine ⟨by simpa [flatRefs] using hown, ⟨D5, hS5, own_keep hm5 (hu5.block _ hm5.lt (by simp; omega))⟩, HMJ.out.up.then hu5 fun k hk => ?_, HMJ.out.ker.upd hu5 fun k hk hm => ?_, HMJ.out.bm, HMJ.out.bw⟩
                · simp at hk; subst hk; right; omega
                · simp at hm; subst hm
                  have := HK.out.mem.lt _ hk
                  omega
              have hvl2 := HJ.out.vlen HK.out.ok.wf
              rw [List.length_append, List.length_singleton] at hvl2
              clear hown hgr hat hlt5
              go_wp2_with fail
              go_roundg (3 * (1048576 - (V ++ [r]).length) + ((Td ++ [p.lo, p.hi]).length - (i + 1)))
              case measure => simp; omega
              case rel => exact ⟨Td ++ [p.lo, p.hi], V ++ [r], i + 1, rfl, by simp, HJ.out, by simpa using HE.out⟩
    · obtain rfl : i = Td.length := by have := hF.il; omega
      have hil : ¬ ((Td.length : Int) < (Td.length : Int)) := by omega
      have HE : Hid (K.FreeUV u x ∧ Upd [] w wr) := ⟨hF.done HK.out.ok, hM.up⟩
      clear hF hM
      go_wp2_with fail
      go_ret2
      exact ⟨true, rfl, by simpa using HE.out.1, HE.out.2⟩
end Go.Proofs.Ytnenhecnkidnpaa
