/- The heap: the contract of up. -/
import Derived.Test.YtjgmbgdbhpfciaaHpA
import Derived.Deep.RegionHeld3
namespace Go.Proofs.Ytjgmbgdbhpfciaa
open Go.RowKit Go.Maps Go.WideShapes

theorem HpMem.isMap {w : World} {b : Nat} {L : List It} {D : DM} {F : List Nat} (h : HpMem w b L D F) : IsMap D := by
  obtain ⟨lv, mb, h1, h2, h3, _⟩ := h.cells
  exact h3.isMap
theorem HpMem.canon {w : World} {b : Nat} {L : List It} {D : DM} {F : List Nat} (h : HpMem w b L D F) : Maps.Canon D := by
  obtain ⟨lv, mb, h1, h2, h3, _⟩ := h.cells
  exact h3.canon intKeyed
theorem HpMem.tidy {w : World} {b : Nat} {L : List It} {D : DM} {F : List Nat} (h : HpMem w b L D F) : Tidy D := by
  obtain ⟨lv, mb, h1, h2, h3, _⟩ := h.cells
  exact h3.tidy intKeyed

/-- What a walk wants of the heap's cells: the list's address, and any of its things. -/
theorem HpMem.list {w : World} {b : Nat} {L : List It} {D : DM} {F : List Nat} (h : HpMem w b L D F) (hn : 0 < L.length) :
    ∃ g cap, g ∈ F ∧ w.cell? ⟨b, 0, none⟩ = some (.slice (some ⟨g, 0, none⟩) L.length cap) ∧ L.length ≤ cap ∧
      ∀ (i : Nat) a, L[i]? = some a → w.cell? ⟨g, i * 2, none⟩ = some (.int .i64 a.x) ∧ w.cell? ⟨g, i * 2 + 1, none⟩ = some (.int .i64 a.k) := by
  obtain ⟨lv, mb, h1, h2, h3, rfl, _⟩ := h.cells
  obtain ⟨g, cap, rfl, _, hg⟩ := h2.form hn
  refine ⟨g, cap, by simp [Value.ownBlock], cell_at h1 rfl, (row_block h2).2.1, fun i a ha => ⟨?_, ?_⟩⟩
  · exact row_cell h2 (by rw [(its_get L i).1, ha]; rfl)
  · exact row_cell h2 (by rw [(its_get L i).2, ha]; rfl)

structure UpRel (w : World) (b : Nat) (a : It) (K0 : List It) (i0 : Nat) (F : List Nat) (i : Nat) (Lm K : List It) (D : DM) (wr : World) : Prop where
  mem : HpMem wr b Lm D F
  eq : Lm.set i a = K
  lt : i < Lm.length
  pm : K.Perm K0
  mid : Mid K i
  bel : Below1 K0 i0 → Below1 K i
  but : MapBut D K i
  up : Upd F w wr
  box : wr.heap[w.heap.size]? = some (.cells #[.int .i64 a.x, .int .i64 a.k] 55 (0, 0))

structure UpPost (w : World) (b : Nat) (a : It) (K0 : List It) (i0 : Nat) (F : List Nat) (w' : World) : Prop where
  ex : ∃ (K : List It) (i : Nat) (D : DM), HpMem w' b K D F ∧ MapIs D K ∧ K.Perm K0 ∧ K[i]? = some a ∧ Mid K i ∧ Above1 K i ∧ (Below1 K0 i0 → Below1 K i)
  up : Upd F w w'

theorem UpRel.get {w : World} {b : Nat} {a : It} {K0 : List It} {i0 : Nat} {F : List Nat} {i : Nat} {Lm K : List It} {D : DM} {wr : World} (h : UpRel w b a K0 i0 F i Lm K D wr) : K[i]? = some a := by
  rw [← h.eq]; exact List.getElem?_set_self h.lt
theorem UpRel.klen {w : World} {b : Nat} {a : It} {K0 : List It} {i0 : Nat} {F : List Nat} {i : Nat} {Lm K : List It} {D : DM} {wr : World} (h : UpRel w b a K0 i0 F i Lm K D wr) : K.length = Lm.length := by
  rw [← h.eq]; simp
theorem UpRel.size {w : World} {b : Nat} {a : It} {K0 : List It} {i0 : Nat} {F : List Nat} {i : Nat} {Lm K : List It} {D : DM} {wr : World} (h : UpRel w b a K0 i0 F i Lm K D wr) : Maps.size D < maxLen :=
  h.but.size h.mem.canon h.mem.tidy (by rw [h.klen]; exact h.mem.bd)

/-- the last put -/
theorem UpRel.done {w w' wr : World} {b : Nat} {a : It} {K0 : List It} {i0 : Nat} {F : List Nat} {i : Nat} {Lm K : List It} {D : DM} (h : UpRel w b a K0 i0 F i Lm K D wr) (hk : KOk K0) (ha : Above1 K i)
    (hm : HpMem w' b (Lm.set i a) (D.put (.int .i64 a.x) (.lit (.int .i64 i))) F) (hu : Upd F wr w') : UpPost w b a K0 i0 F w' :=
  ⟨⟨K, i, _, by rw [← h.eq]; exact hm, h.but.put h.mem.isMap (hk.perm h.pm) h.get, h.pm, h.get, h.mid, ha, h.bel⟩, h.up.trans hu⟩

theorem UpRel.sub {w wr : World} {b : Nat} {a c : It} {K0 : List It} {i0 : Nat} {F : List Nat} {i p : Nat} {Lm K : List It} {D : DM} (h : UpRel w b a K0 i0 F i Lm K D wr) (_hc : c ∈ Lm) (hne : p ≠ i) (hp : Lm[p]? = some c) : c ∈ K0 := by
  refine h.pm.subset ?_
  rw [← h.eq]
  exact List.mem_of_getElem? (i := p) (by rw [List.getElem?_set_ne (Ne.symm hne)]; exact hp)
theorem UpRel.above {w wr : World} {b : Nat} {a c : It} {K0 : List It} {i0 : Nat} {F : List Nat} {m p : Nat} {Lm K : List It} {D : DM} (h : UpRel w b a K0 i0 F (m + 1) Lm K D wr) (hp : m / 2 = p) (hc : Lm[p]? = some c) (ha : ahead a c = false) : Above1 K (m + 1) := by
  intro _ x y hx hy
  rw [h.get] at hy; cases hy
  rw [show (m + 1 - 1) / 2 = p by omega, ← h.eq, List.getElem?_set_ne (by omega), hc] at hx
  cases hx; exact ha

theorem set_set_comm {Lm : List It} {i p : Nat} {a b : It} (_h : p ≠ i) : (Lm.set i b).set p a = swp (Lm.set i a) i p a b := by
  unfold swp
  rw [List.set_set]

/-- one round -/
theorem UpRel.step {w w' wr : World} {b : Nat} {a c : It} {K0 : List It} {i0 : Nat} {F : List Nat} {i p : Nat} {Lm K : List It} {D : DM} (h : UpRel w b a K0 i0 F i Lm K D wr) (hk : KOk K0)
    (hi : 0 < i) (hp : (i - 1) / 2 = p) (hc : Lm[p]? = some c) (hac : ahead a c = true)
    (hm : HpMem w' b (Lm.set i c) (D.put (.int .i64 c.x) (.lit (.int .i64 i))) F) (hu : Upd F wr w') (hF : ∀ k, k ∈ F → k < w.heap.size) :
    UpRel w b a K0 i0 F p (Lm.set i c) (swp K i p a c) (D.put (.int .i64 c.x) (.lit (.int .i64 i))) w' := by
  have hne : p ≠ i := by omega
  have hcK : K[p]? = some c := by rw [← h.eq, List.getElem?_set_ne (Ne.symm hne)]; exact hc
  obtain ⟨m1, m2⟩ := h.mid.up hi h.get (by rw [hp]; exact hcK) hac
  rw [hp] at m1 m2
  have hpl := (List.getElem?_eq_some_iff.1 hc).1
  refine ⟨hm, ?_, by simpa using hpl, (swp_perm hcK h.get hne).trans h.pm, m1, fun _ => m2, h.but.move h.mem.isMap (hk.perm h.pm) h.get hcK hne, h.up.trans hu, ?_⟩
  · rw [set_set_comm hne, h.eq]
  · rw [hu.block _ (heap_lt h.box) (fun hf => by have := hF _ hf; omega)]; exact h.box

theorem heldU {w w4 : World} {b g cap n B p : Nat} {a c : It} (hu : Upd [] w w4) (hb : b < w.heap.size) (hB : B < w.heap.size) (hg : g < w.heap.size)
    (h : w.cell? ⟨b, 0, none⟩ = some (.slice (some ⟨g, 0, none⟩) n cap) ∧ w.cell? ⟨B, 0, none⟩ = some (.int .i64 a.x) ∧ w.cell? ⟨B, 1, none⟩ = some (.int .i64 a.k) ∧ w.cell? ⟨g, p * 2, none⟩ = some (.int .i64 c.x) ∧ w.cell? ⟨g, p * 2 + 1, none⟩ = some (.int .i64 c.k)) :
    w4.cell? ⟨b, 0, none⟩ = some (.slice (some ⟨g, 0, none⟩) n cap) ∧ w4.cell? ⟨B, 0, none⟩ = some (.int .i64 a.x) ∧ w4.cell? ⟨B, 1, none⟩ = some (.int .i64 a.k) ∧ w4.cell? ⟨g, p * 2, none⟩ = some (.int .i64 c.x) ∧ w4.cell? ⟨g, p * 2 + 1, none⟩ = some (.int .i64 c.k) := by
  obtain ⟨h1, h2, h3, h4, h5⟩ := h
  exact ⟨(hu.cell hb (by simp)).trans h1, (hu.cell hB (by simp)).trans h2, (hu.cell hB (by simp)).trans h3, (hu.cell hg (by simp)).trans h4, (hu.cell hg (by simp)).trans h5⟩

set_option maxHeartbeats 400000 in
theorem up_spec (b i0 : Nat) (a : It) (K0 : List It) (D0 : DM) (F : List Nat) (w : World) (h : HpMem w b K0 D0 F) (hi : K0[i0]? = some a) (hk : KOk K0) (hm : Mid K0 i0) (hb : MapBut D0 K0 i0) :
    Calls Try.prog 16 #[.pointer (some ⟨b, 0, none⟩), .int .i64 i0] w fun e w' => e = .returned (.tuple #[]) ∧ UpPost w b a K0 i0 F w' := by
  have hlt := (List.getElem?_eq_some_iff.1 hi).1
  obtain ⟨g, cap, hgF, hc0, hcap, hc⟩ := h.list (by omega)
  obtain ⟨hx, hkk⟩ := hc i0 a hi
  have hbd := h.bd
  have hFl := h.lt
  have hbl := hFl b h.head
  have hgl := hFl g hgF
  have HFl := Lib.hid hFl
  have HK := Lib.hid hk
  have H0 : Hid (UpRel w b a K0 i0 F i0 K0 K0 D0 (w.alloc (.cells #[.int .i64 a.x, .int .i64 a.k] 55 (0, 0)))) :=
    ⟨h.upd ((Upd.refl [] w).alloc _) (by simp), List.ext_getElem? fun j => by
        rw [List.getElem?_set]; split
        · rename_i e; subst e; simp [hlt, ← hi]
        · rfl, hlt, List.Perm.refl _, hm, fun h => h, hb, (Upd.refl F w).alloc _, heap_alloc_new w _⟩
  clear h hi hk hm hb hc hFl
  go_enter Try.func16, Try.ntmps16
  go_wp2_with fail
  clear hc0 hx hkk
  go_loopg [1] i0 (fun g s1 wr => ∃ (i : Nat) (Lm K : List It) (D : DM), i = g ∧ s1 = .int .i64 i ∧ UpRel w b a K0 i0 F i Lm K D wr)
  case atStart => exact ⟨i0, K0, K0, D0, rfl, rfl, H0.out⟩
  case round =>
    obtain ⟨i, Lm, K, D, rfl, rfl, hR⟩ := hrel
    have hbox := hR.box
    have x0 : wr.cell? ⟨w.heap.size, 0, none⟩ = some (.int .i64 a.x) := cell_at hbox rfl
    have x1 : wr.cell? ⟨w.heap.size, 1, none⟩ = some (.int .i64 a.k) := cell_at hbox rfl
    have hbd' := hR.mem.bd
    have hlt' := hR.lt
    obtain ⟨g', cap', hgF', hc0, hcap', hc⟩ := hR.mem.list (by omega)
    clear hbox
    have hwa : (Lit.int .i64 a.x).wf = true := (HK.out.perm hR.pm).wf a (List.mem_of_getElem? hR.get)
    have HWA := Lib.hid hwa
    clear hwa
    by_cases h0 : i = 0
    · subst h0
      have HR := Lib.hid hR
      clear hR hc hc0
      have hd : decide ((0 : Int) < 0) = false := by simp
      go_wp2_with fail
      go_quiet (fail)
      go_wp2_with fail
      refine (put_spec b 0 a Lm D F _ (HR.out.mem.upd ((Upd.refl [] wr).drewN _) (by simp)) (by omega) HWA.out HR.out.size).mono ?_
      rintro e w3 ⟨rfl, hm3, hu3⟩
      have HE := Lib.hid (HR.out.done HK.out (fun h => by omega) hm3 (((Upd.refl F wr).drewN _).trans hu3))
      clear hm3 hu3
      go_wp2_with fail
      go_end0
      exact ⟨rfl, HE.out⟩
    · obtain ⟨m, rfl⟩ : ∃ m, i = m + 1 := ⟨i - 1, by omega⟩
      obtain ⟨p, hp⟩ : ∃ p, m / 2 = p := ⟨_, rfl⟩
      have hpi : (m : Int) / 2 = (p : Int) := by omega
      have hpl : p < Lm.length := by omega
      have HP := Lib.hid hp
      clear hp h0
      obtain ⟨c, hcp⟩ : ∃ c, Lm[p]? = some c := ⟨_, List.getElem?_eq_getElem hpl⟩
      obtain ⟨y0, y1⟩ := hc p c hcp
      have HC := Lib.hid hcp
      have HWC := Lib.hid (HK.out.wf c (hR.sub (List.mem_of_getElem? hcp) (by omega) hcp))
      have HR := Lib.hid hR
      clear hR hc hcp
      have hbw : b < wr.heap.size := HR.out.mem.lt b HR.out.mem.head
      have hgw : g' < wr.heap.size := HR.out.mem.lt g' hgF'
      have hBw : w.heap.size < wr.heap.size := heap_lt HR.out.box
      by_cases hac : ahead a c = true
      · have HA := Lib.hid hac
        clear hac
        go_wp2_with fail
        have e0 : IntKind.i64.wrap (m : Int) = m := IntWalk.i64_in _ (by omega)
        have e1 : (m : Int).tdiv 2 = p := by rw [Int.tdiv_eq_ediv_of_nonneg (by omega)]; exact hpi
        have e2 : IntKind.i64.wrap (p : Int) = p := IntWalk.i64_in _ (by omega)
        have e3 : (0 : Int) ≤ (p : Int) := by omega
        have e4 : (p : Int) < (Lm.length : Int) := by omega
        go_region_held3 (fun w' => w'.cell? ⟨b, 0, none⟩ = some (.slice (some ⟨g', 0, none⟩) Lm.length cap') ∧ w'.cell? ⟨w.heap.size, 0, none⟩ = some (.int .i64 a.x) ∧ w'.cell? ⟨w.heap.size, 1, none⟩ = some (.int .i64 a.k) ∧ w'.cell? ⟨g', p * 2, none⟩ = some (.int .i64 c.x) ∧ w'.cell? ⟨g', p * 2 + 1, none⟩ = some (.int .i64 c.k)) (first | exact ⟨hc0, x0, x1, y0, y1⟩ | exact heldU HU4.out.of_drew hbw hBw hgw ⟨hc0, x0, x1, y0, y1⟩) (first | (go_at_call 22; refine (ahead_spec a c _).mono ?_; rintro e w4 ⟨rfl, hu4⟩; rw [HA.out]; have HU4 := Lib.hid hu4; clear hu4))
        obtain ⟨q1, q2, q3, q4, q5⟩ := heldU HU4.out.of_drew hbw hBw hgw ⟨hc0, x0, x1, y0, y1⟩
        clear hc0 x0 x1 y0 y1 e0 e1 e2 e3 e4
        go_wp2_with fail
        have HM := Lib.hid (HR.out.mem.upd HU4.out.of_drew (by simp))
        have hwc : (Lit.int .i64 c.x).wf = true := HWC.out
        have HW3 := Lib.hid hwc
        clear hwc
        refine (put_at b (m + 1) _ (by omega) c Lm D F _ HM.out (by omega) HW3.out HR.out.size).mono ?_
        rintro e w5 ⟨rfl, hm5, hu5⟩
        have HE := Lib.hid (HR.out.step HK.out (by omega) (by simpa using HP.out) HC.out HA.out hm5 ((HU4.out.of_drew.mono (by simp)).trans hu5) HFl.out)
        clear hm5 hu5
        go_wp2_with fail
        go_roundg p
        case measure => omega
        case rel => exact ⟨p, _, _, _, rfl, by first | rfl | (rw [hpi]), HE.out⟩
      · have hac' : ahead a c = false := by simpa using hac
        have HA := Lib.hid hac'
        clear hac hac'
        go_wp2_with fail
        have e0 : IntKind.i64.wrap (m : Int) = m := IntWalk.i64_in _ (by omega)
        have e1 : (m : Int).tdiv 2 = p := by rw [Int.tdiv_eq_ediv_of_nonneg (by omega)]; exact hpi
        have e2 : IntKind.i64.wrap (p : Int) = p := IntWalk.i64_in _ (by omega)
        have e3 : (0 : Int) ≤ (p : Int) := by omega
        have e4 : (p : Int) < (Lm.length : Int) := by omega
        go_region_held3 (fun w' => w'.cell? ⟨b, 0, none⟩ = some (.slice (some ⟨g', 0, none⟩) Lm.length cap') ∧ w'.cell? ⟨w.heap.size, 0, none⟩ = some (.int .i64 a.x) ∧ w'.cell? ⟨w.heap.size, 1, none⟩ = some (.int .i64 a.k) ∧ w'.cell? ⟨g', p * 2, none⟩ = some (.int .i64 c.x) ∧ w'.cell? ⟨g', p * 2 + 1, none⟩ = some (.int .i64 c.k)) (first | exact ⟨hc0, x0, x1, y0, y1⟩ | exact heldU HU4.out.of_drew hbw hBw hgw ⟨hc0, x0, x1, y0, y1⟩) (first | (go_at_call 22; refine (ahead_spec a c _).mono ?_; rintro e w4 ⟨rfl, hu4⟩; rw [HA.out]; have HU4 := Lib.hid hu4; clear hu4))
        obtain ⟨q1, q2, q3, q4, q5⟩ := heldU HU4.out.of_drew hbw hBw hgw ⟨hc0, x0, x1, y0, y1⟩
        clear hc0 x0 x1 y0 y1 e0 e1 e2 e3 e4
        go_wp2_with fail
        have HM := Lib.hid (HR.out.mem.upd HU4.out.of_drew (by simp))
        refine (put_at b (m + 1) _ (by omega) a Lm D F _ HM.out (by omega) HWA.out HR.out.size).mono ?_
        rintro e w5 ⟨rfl, hm5, hu5⟩
        have HE := Lib.hid (HR.out.done HK.out (HR.out.above HP.out HC.out HA.out) hm5 ((HU4.out.of_drew.mono (by simp)).trans hu5))
        clear hm5 hu5
        go_wp2_with fail
        go_end0
        exact ⟨rfl, HE.out⟩
end Go.Proofs.Ytjgmbgdbhpfciaa
