/- The heap: the contract of down. -/
import Derived.Test.YtjgmbgdbhpfciaaHpU
namespace Go.Proofs.Ytjgmbgdbhpfciaa
open Go.RowKit Go.Maps Go.WideShapes

theorem heldV {w w4 : World} {a1 a2 a3 a4 a5 : Addr} {v1 v2 v3 v4 v5 : Value} (hu : Upd [] w w4) (h1 : w.cell? a1 = some v1) (h2 : w.cell? a2 = some v2) (h3 : w.cell? a3 = some v3) (h4 : w.cell? a4 = some v4) (h5 : w.cell? a5 = some v5) :
    w4.cell? a1 = some v1 ∧ w4.cell? a2 = some v2 ∧ w4.cell? a3 = some v3 ∧ w4.cell? a4 = some v4 ∧ w4.cell? a5 = some v5 :=
  ⟨(hu.cell (World.block_lt_of_cell? w _ h1) (by simp)).trans h1, (hu.cell (World.block_lt_of_cell? w _ h2) (by simp)).trans h2, (hu.cell (World.block_lt_of_cell? w _ h3) (by simp)).trans h3,
   (hu.cell (World.block_lt_of_cell? w _ h4) (by simp)).trans h4, (hu.cell (World.block_lt_of_cell? w _ h5) (by simp)).trans h5⟩

structure DnRel (w : World) (b : Nat) (a : It) (K0 : List It) (F : List Nat) (i : Nat) (Lm K : List It) (D : DM) (wr : World) : Prop where
  mem : HpMem wr b Lm D F
  eq : Lm.set i a = K
  lt : i < Lm.length
  pm : K.Perm K0
  mid : Mid K i
  abo : Above1 K i
  but : MapBut D K i
  up : Upd F w wr
  box : wr.heap[w.heap.size]? = some (.cells #[.int .i64 a.x, .int .i64 a.k] 55 (0, 0))

structure DnPost (w : World) (b : Nat) (K0 : List It) (F : List Nat) (w' : World) : Prop where
  ex : ∃ (K : List It) (D : DM), HpMem w' b K D F ∧ MapIs D K ∧ K.Perm K0 ∧ Heap K
  up : Upd F w w'

section
variable {w w' wr : World} {b : Nat} {a cc : It} {K0 : List It} {F : List Nat} {i c : Nat} {Lm K : List It} {D : DM}

theorem DnRel.get (h : DnRel w b a K0 F i Lm K D wr) : K[i]? = some a := by rw [← h.eq]; exact List.getElem?_set_self h.lt
theorem DnRel.klen (h : DnRel w b a K0 F i Lm K D wr) : K.length = Lm.length := by rw [← h.eq]; simp
theorem DnRel.size (h : DnRel w b a K0 F i Lm K D wr) : Maps.size D < maxLen := h.but.size h.mem.canon h.mem.tidy (by rw [h.klen]; exact h.mem.bd)
theorem DnRel.other (h : DnRel w b a K0 F i Lm K D wr) (hne : c ≠ i) : K[c]? = Lm[c]? := by rw [← h.eq, List.getElem?_set_ne (Ne.symm hne)]
theorem DnRel.sub (h : DnRel w b a K0 F i Lm K D wr) (hne : c ≠ i) (hp : Lm[c]? = some cc) : cc ∈ K0 :=
  h.pm.subset (List.mem_of_getElem? (i := c) (by rw [h.other hne]; exact hp))

theorem DnRel.done (h : DnRel w b a K0 F i Lm K D wr) (hk : KOk K0) (hb : Below1 K i)
    (hm : HpMem w' b (Lm.set i a) (D.put (.int .i64 a.x) (.lit (.int .i64 i))) F) (hu : Upd F wr w') : DnPost w b K0 F w' :=
  ⟨⟨K, _, by rw [← h.eq]; exact hm, h.but.put h.mem.isMap (hk.perm h.pm) h.get, h.pm, h.mid.heap h.abo hb⟩, h.up.trans hu⟩

/-- c is a child of i, and the lesser one -/
theorem DnRel.step (h : DnRel w b a K0 F i Lm K D wr) (hk : KOk K0) (hci : 0 < c ∧ (c - 1) / 2 = i) (hc : Lm[c]? = some cc) (hac : ahead cc a = true)
    (hl : ∀ j, 0 < j → (j - 1) / 2 = i → LeAt K c j)
    (hm : HpMem w' b (Lm.set i cc) (D.put (.int .i64 cc.x) (.lit (.int .i64 i))) F) (hu : Upd F wr w') (hF : ∀ k, k ∈ F → k < w.heap.size) :
    DnRel w b a K0 F c (Lm.set i cc) (swp K i c a cc) (D.put (.int .i64 cc.x) (.lit (.int .i64 i))) w' := by
  have hne : c ≠ i := by omega
  have hcK : K[c]? = some cc := by rw [h.other hne]; exact hc
  obtain ⟨m1, m2⟩ := h.mid.down h.abo hci.1 hci.2 h.get hcK hac hl
  have hpl := (List.getElem?_eq_some_iff.1 hc).1
  refine ⟨hm, ?_, by simpa using hpl, (swp_perm hcK h.get hne).trans h.pm, m1, m2, h.but.move h.mem.isMap (hk.perm h.pm) h.get hcK hne, h.up.trans hu, ?_⟩
  · rw [set_set_comm hne, h.eq]
  · rw [hu.block _ (heap_lt h.box) (fun hf => by have := hF _ hf; omega)]; exact h.box

theorem DnRel.below (h : DnRel w b a K0 F i Lm K D wr) (hci : 0 < c ∧ (c - 1) / 2 = i) (hc : Lm[c]? = some cc) (hac : ahead cc a = false)
    (hl : ∀ j, 0 < j → (j - 1) / 2 = i → LeAt K c j) : Below1 K i := by
  intro j hj hji x y hx hy
  rw [h.get] at hx; cases hx
  have hcK : K[c]? = some cc := by rw [h.other (by omega)]; exact hc
  exact le_trans hac (hl j hj hji _ _ hcK hy)

theorem DnRel.none (h : DnRel w b a K0 F i Lm K D wr) (hc : Lm.length ≤ 2 * i + 1) : Below1 K i := by
  intro j hj hji x y _ hy
  have := (List.getElem?_eq_some_iff.1 hy).1
  rw [h.klen] at this
  omega

theorem DnRel.one (h : DnRel w b a K0 F i Lm K D wr) (hc : Lm.length ≤ 2 * i + 2) : ∀ j, 0 < j → (j - 1) / 2 = i → LeAt K (2 * i + 1) j := by
  intro j hj hji x y hx hy
  have := (List.getElem?_eq_some_iff.1 hy).1
  rw [h.klen] at this
  have : j = 2 * i + 1 := by omega
  subst this
  rw [hx] at hy; cases hy; exact le_refl _

theorem DnRel.left (h : DnRel w b a K0 F i Lm K D wr) {x y : It} (hx : Lm[2 * i + 1]? = some x) (hy : Lm[2 * i + 2]? = some y) (hle : ahead y x = false) : ∀ j, 0 < j → (j - 1) / 2 = i → LeAt K (2 * i + 1) j := by
  intro j hj hji u v hu hv
  rw [h.other (by omega), hx] at hu; cases hu
  have : j = 2 * i + 1 ∨ j = 2 * i + 2 := by omega
  rcases this with rfl | rfl
  · rw [h.other (by omega), hx] at hv; cases hv; exact le_refl _
  · rw [h.other (by omega), hy] at hv; cases hv; exact hle
theorem DnRel.right (h : DnRel w b a K0 F i Lm K D wr) {x y : It} (hx : Lm[2 * i + 1]? = some x) (hy : Lm[2 * i + 2]? = some y) (hle : ahead y x = true) : ∀ j, 0 < j → (j - 1) / 2 = i → LeAt K (2 * i + 2) j := by
  intro j hj hji u v hu hv
  rw [h.other (by omega), hy] at hu; cases hu
  have : j = 2 * i + 1 ∨ j = 2 * i + 2 := by omega
  rcases this with rfl | rfl
  · rw [h.other (by omega), hx] at hv; cases hv; exact le_of_ahead hle
  · rw [h.other (by omega), hy] at hv; cases hv; exact le_refl _
end

set_option maxHeartbeats 1600000 in
theorem down_spec (b i0 : Nat) (iv : Int) (hiv : iv = (i0 : Int)) (a : It) (K0 : List It) (D0 : DM) (F : List Nat) (w : World) (h : HpMem w b K0 D0 F) (hi : K0[i0]? = some a) (hk : KOk K0) (hm : Mid K0 i0) (hab : Above1 K0 i0) (hb : MapBut D0 K0 i0) :
    Calls Try.prog 18 #[.pointer (some ⟨b, 0, none⟩), .int .i64 iv] w fun e w' => e = .returned (.tuple #[]) ∧ DnPost w b K0 F w' := by
  subst hiv
  have hlt := (List.getElem?_eq_some_iff.1 hi).1
  obtain ⟨g, cap, hgF, hc0, hcap, hc⟩ := h.list (by omega)
  obtain ⟨hx, hkk⟩ := hc i0 a hi
  have hbd := h.bd
  have hFl := h.lt
  have hbl := hFl b h.head
  have hgl := hFl g hgF
  have HFl := Lib.hid hFl
  have HK := Lib.hid hk
  have H0 : Hid (DnRel w b a K0 F i0 K0 K0 D0 (w.alloc (.cells #[.int .i64 a.x, .int .i64 a.k] 55 (0, 0)))) :=
    ⟨h.upd ((Upd.refl [] w).alloc _) (by simp), List.ext_getElem? fun j => by
        rw [List.getElem?_set]; split
        · rename_i e; subst e; simp [hlt, ← hi]
        · rfl, hlt, List.Perm.refl _, hm, hab, hb, (Upd.refl F w).alloc _, heap_alloc_new w _⟩
  clear h hi hk hm hb hc hFl hab
  go_enter Try.func18, Try.ntmps18
  go_wp2_with fail
  clear hc0 hx hkk
  go_loopg [1] (K0.length - i0) (fun g s1 wr => ∃ (i : Nat) (Lm K : List It) (D : DM), Lm.length - i = g ∧ s1 = .int .i64 i ∧ DnRel w b a K0 F i Lm K D wr)
  case atStart => exact ⟨i0, K0, K0, D0, rfl, rfl, H0.out⟩
  case round =>
    obtain ⟨i, Lm, K, D, rfl, rfl, hR⟩ := hrel
    have hbox := hR.box
    have x0 : wr.cell? ⟨w.heap.size, 0, none⟩ = some (.int .i64 a.x) := cell_at hbox rfl
    have x1 : wr.cell? ⟨w.heap.size, 1, none⟩ = some (.int .i64 a.k) := cell_at hbox rfl
    have hbd' := hR.mem.bd
    have hlt' := hR.lt
    obtain ⟨g', cap', hgF', hc0, hcap', hc⟩ := hR.mem.list (by omega)
    clear hbox
    have HWA := Lib.hid ((HK.out.perm hR.pm).wf a (List.mem_of_getElem? hR.get))
    have HCs := Lib.hid hc
    have HR := Lib.hid hR
    clear hR hc
    have hbw : b < wr.heap.size := HR.out.mem.lt b HR.out.mem.head
    have hgw : g' < wr.heap.size := HR.out.mem.lt g' hgF'
    have hBw : w.heap.size < wr.heap.size := heap_lt HR.out.box

    by_cases hA : Lm.length ≤ 2 * i + 1
    · -- no child
      obtain ⟨c, hcc⟩ : ∃ c : Nat, 2 * (i : Int) + 1 = c := ⟨2 * i + 1, by omega⟩
      have hd1 : decide ((c : Int) + 1 < (Lm.length : Int)) = false := by simp; omega
      have hd2 : (Lm.length : Int) ≤ (c : Int) := by omega
      have hd3 : IntKind.i64.wrap ((c : Int) + 1) = (c : Int) + 1 := IntWalk.i64_in _ (by omega)
      go_wp2_with fail
      go_quiet (fail)
      go_wp2_with fail
      go_quiet (fail)
      go_wp2_with fail
      refine (put_at b i _ (by omega) a Lm D F _ (HR.out.mem.upd ((Upd.refl [] wr).drewN _) (by simp)) (by omega) HWA.out HR.out.size).mono ?_
      rintro e w8 ⟨rfl, hm8, hu8⟩
      have HE := Lib.hid (HR.out.done HK.out (HR.out.none hA) hm8 (((Upd.refl F wr).drewN _).trans hu8))
      clear hm8 hu8
      go_wp2_with fail
      go_end0
      exact ⟨rfl, HE.out⟩
    · by_cases hB : Lm.length ≤ 2 * i + 2
      · -- one child
        obtain ⟨c, hcc, hcn⟩ : ∃ c : Nat, 2 * (i : Int) + 1 = c ∧ c = 2 * i + 1 := ⟨2 * i + 1, by omega, rfl⟩
        have hd1 : decide ((c : Int) + 1 < (Lm.length : Int)) = false := by simp; omega
        have hd2 : (c : Int) < (Lm.length : Int) := by omega
        have hd4 : decide ((Lm.length : Int) ≤ (c : Int)) = false := by simp; omega
        have hd5 : decide (Lm.length ≤ c) = false := by simp; omega
        have hd3 : IntKind.i64.wrap ((c : Int) + 1) = (c : Int) + 1 := IntWalk.i64_in _ (by omega)
        have hd6 : (0 : Int) ≤ (c : Int) := by omega
        have hcl : c < Lm.length := by omega
        obtain ⟨cc, hcd⟩ : ∃ x, Lm[c]? = some x := ⟨_, List.getElem?_eq_getElem hcl⟩
        have HCI : Hid (0 < c ∧ (c - 1) / 2 = i) := ⟨by omega, by omega⟩
        have HL : Hid (∀ j, 0 < j → (j - 1) / 2 = i → LeAt K c j) := by rw [hcn]; exact HR.out.one (by omega)
        have HC := Lib.hid hcd
        have HWC := Lib.hid (HK.out.wf cc (HR.out.sub (by omega) hcd))
        obtain ⟨y0, y1⟩ := HCs.out c cc hcd
        clear hcd hcn
        go_wp2_with fail
        go_quiet (fail)
        have r0 : (wr.drewN nq).cell? ⟨b, 0, none⟩ = some (.slice (some ⟨g', 0, none⟩) Lm.length cap') := hc0
        have r1 : (wr.drewN nq).cell? ⟨w.heap.size, 0, none⟩ = some (.int .i64 a.x) := x0
        have r2 : (wr.drewN nq).cell? ⟨w.heap.size, 1, none⟩ = some (.int .i64 a.k) := x1
        have r3 : (wr.drewN nq).cell? ⟨g', c * 2, none⟩ = some (.int .i64 cc.x) := y0
        have r4 : (wr.drewN nq).cell? ⟨g', c * 2 + 1, none⟩ = some (.int .i64 cc.k) := y1
        have hbw2 : b < (wr.drewN nq).heap.size := hbw
        have hBw2 : w.heap.size < (wr.drewN nq).heap.size := hBw
        have hgw2 : g' < (wr.drewN nq).heap.size := hgw
        have hU2 : Hid (Upd [] wr (wr.drewN nq)) := (Upd.refl [] wr).drewN nq
        by_cases hac : ahead cc a = true
        · have HA := Lib.hid hac
          clear hac
          go_wp2_with fail
          go_region_held3 (fun w' => w'.cell? ⟨b, 0, none⟩ = some (.slice (some ⟨g', 0, none⟩) Lm.length cap') ∧ w'.cell? ⟨w.heap.size, 0, none⟩ = some (.int .i64 a.x) ∧ w'.cell? ⟨w.heap.size, 1, none⟩ = some (.int .i64 a.k) ∧ w'.cell? ⟨g', c * 2, none⟩ = some (.int .i64 cc.x) ∧ w'.cell? ⟨g', c * 2 + 1, none⟩ = some (.int .i64 cc.k)) (first | exact ⟨r0, r1, r2, r3, r4⟩ | exact heldU HW7.out.of_drew hbw2 hBw2 hgw2 ⟨r0, r1, r2, r3, r4⟩) (first | (go_at_call 22; refine (ahead_spec cc a _).mono ?_; rintro e w7 ⟨rfl, hw7⟩; rw [HA.out]; have HW7 := Lib.hid hw7; clear hw7))
          obtain ⟨q0, q1, q2, q3, q4⟩ := heldU HW7.out.of_drew hbw2 hBw2 hgw2 ⟨r0, r1, r2, r3, r4⟩
          clear r0 r1 r2 r3 r4
          go_wp2_with fail
          have HUS := Lib.hid (hU2.out.trans HW7.out.of_drew)
          refine (put_at b i _ (by omega) cc Lm D F _ (HR.out.mem.upd HUS.out (by simp)) (by omega) HWC.out HR.out.size).mono ?_
          rintro e w8 ⟨rfl, hm8, hu8⟩
          have HE := Lib.hid (HR.out.step HK.out HCI.out HC.out HA.out HL.out hm8 ((HUS.out.mono (by simp)).trans hu8) HFl.out)
          clear hm8 hu8
          go_wp2_with fail
          go_roundg (Lm.length - c)
          case measure => omega
          case rel => exact ⟨c, Lm.set i cc, _, _, by simp, by first | rfl | simp, HE.out⟩
        · have hac' : ahead cc a = false := by simpa using hac
          have HA := Lib.hid hac'
          clear hac hac'
          go_wp2_with fail
          go_region_held3 (fun w' => w'.cell? ⟨b, 0, none⟩ = some (.slice (some ⟨g', 0, none⟩) Lm.length cap') ∧ w'.cell? ⟨w.heap.size, 0, none⟩ = some (.int .i64 a.x) ∧ w'.cell? ⟨w.heap.size, 1, none⟩ = some (.int .i64 a.k) ∧ w'.cell? ⟨g', c * 2, none⟩ = some (.int .i64 cc.x) ∧ w'.cell? ⟨g', c * 2 + 1, none⟩ = some (.int .i64 cc.k)) (first | exact ⟨r0, r1, r2, r3, r4⟩ | exact heldU HW7.out.of_drew hbw2 hBw2 hgw2 ⟨r0, r1, r2, r3, r4⟩) (first | (go_at_call 22; refine (ahead_spec cc a _).mono ?_; rintro e w7 ⟨rfl, hw7⟩; rw [HA.out]; have HW7 := Lib.hid hw7; clear hw7))
          obtain ⟨q0, q1, q2, q3, q4⟩ := heldU HW7.out.of_drew hbw2 hBw2 hgw2 ⟨r0, r1, r2, r3, r4⟩
          clear r0 r1 r2 r3 r4
          go_wp2_with fail
          have HUS := Lib.hid (hU2.out.trans HW7.out.of_drew)
          refine (put_at b i _ (by omega) a Lm D F _ (HR.out.mem.upd HUS.out (by simp)) (by omega) HWA.out HR.out.size).mono ?_
          rintro e w8 ⟨rfl, hm8, hu8⟩
          have HE := Lib.hid (HR.out.done HK.out (HR.out.below HCI.out HC.out HA.out HL.out) hm8 ((HUS.out.mono (by simp)).trans hu8))
          clear hm8 hu8
          go_wp2_with fail
          go_end0
          exact ⟨rfl, HE.out⟩
      · -- two children
        obtain ⟨c0, hcc, hc0n⟩ : ∃ c : Nat, 2 * (i : Int) + 1 = c ∧ c = 2 * i + 1 := ⟨2 * i + 1, by omega, rfl⟩
        obtain ⟨c1, hcs, hc1n⟩ : ∃ c : Nat, (c0 : Int) + 1 = c ∧ c = 2 * i + 2 := ⟨2 * i + 2, by omega, rfl⟩
        have hd1 : (c1 : Int) < (Lm.length : Int) := by omega
        have hd2 : (c0 : Int) < (Lm.length : Int) := by omega
        have hd3 : IntKind.i64.wrap (c1 : Int) = (c1 : Int) := IntWalk.i64_in _ (by omega)
        have hd4 : (0 : Int) ≤ (c0 : Int) := by omega
        have hd5 : (0 : Int) ≤ (c1 : Int) := by omega
        have hd6 : decide ((Lm.length : Int) ≤ (c0 : Int)) = false := by simp; omega
        have hd7 : decide ((Lm.length : Int) ≤ (c1 : Int)) = false := by simp; omega
        have hd8 : decide (Lm.length ≤ c0) = false := by simp; omega
        have hd9 : decide (Lm.length ≤ c1) = false := by simp; omega
        obtain ⟨ca, hca⟩ : ∃ x, Lm[c0]? = some x := ⟨_, List.getElem?_eq_getElem (by omega)⟩
        obtain ⟨cb, hcb⟩ : ∃ x, Lm[c1]? = some x := ⟨_, List.getElem?_eq_getElem (by omega)⟩
        obtain ⟨y0, y1⟩ := HCs.out c0 ca hca
        obtain ⟨z0, z1⟩ := HCs.out c1 cb hcb
        have HCA := Lib.hid hca
        have HCB := Lib.hid hcb
        have HN := Lib.hid (And.intro hc0n hc1n)
        have hc0l : c0 < Lm.length := by omega
        have hc1l : c1 < Lm.length := by omega
        clear hca hcb hc0n hc1n
        by_cases hab : ahead cb ca = true
        · have HAB := Lib.hid hab
          clear hab
          obtain ⟨c, hc⟩ : ∃ c, c = c1 := ⟨_, rfl⟩
          obtain ⟨cc, hccb⟩ : ∃ cc, cc = cb := ⟨_, rfl⟩
          have HCI : Hid (0 < c ∧ (c - 1) / 2 = i) := ⟨by have := HN.out; omega, by have := HN.out; omega⟩
          have HL : Hid (∀ j, 0 < j → (j - 1) / 2 = i → LeAt K c j) := by
            rw [hc, HN.out.2]; exact HR.out.right (by rw [← HN.out.1]; exact HCA.out) (by rw [← HN.out.2]; exact HCB.out) HAB.out
          have HC : Hid (Lm[c]? = some cc) := by rw [hc, hccb]; exact HCB.out
          have HWC := Lib.hid (HK.out.wf cc (HR.out.sub (by have := HN.out; omega) HC.out))
          subst hc
          subst hccb
          go_wp2_with fail
          go_region_held3 (fun w' => w'.cell? ⟨b, 0, none⟩ = some (.slice (some ⟨g', 0, none⟩) Lm.length cap') ∧ w'.cell? ⟨g', c0 * 2, none⟩ = some (.int .i64 ca.x) ∧ w'.cell? ⟨g', c0 * 2 + 1, none⟩ = some (.int .i64 ca.k) ∧ w'.cell? ⟨g', c * 2, none⟩ = some (.int .i64 cc.x) ∧ w'.cell? ⟨g', c * 2 + 1, none⟩ = some (.int .i64 cc.k)) (first | exact ⟨hc0, y0, y1, z0, z1⟩ | exact heldV HW6.out.of_drew hc0 y0 y1 z0 z1) (first | (go_at_call 22; refine (ahead_spec cc ca _).mono ?_; rintro e w6 ⟨rfl, hw6⟩; rw [HAB.out]; have HW6 := Lib.hid hw6; clear hw6))
          obtain ⟨r0, r3, r4, _, _⟩ := heldV HW6.out.of_drew hc0 z0 z1 y0 y1
          obtain ⟨_, r1, r2, _, _⟩ := heldV HW6.out.of_drew hc0 x0 x1 y0 y1
          have hbw2 := World.block_lt_of_cell? w6 _ r0
          have hBw2 := World.block_lt_of_cell? w6 _ r1
          have hgw2 := World.block_lt_of_cell? w6 _ r3
          have hU2 := Lib.hid (HW6.out.of_drew)
          clear hc0 x0 x1 y0 y1 z0 z1
          by_cases hac : ahead cc a = true
          · have HA := Lib.hid hac
            clear hac
            go_wp2_with fail
            go_region_held3 (fun w' => w'.cell? ⟨b, 0, none⟩ = some (.slice (some ⟨g', 0, none⟩) Lm.length cap') ∧ w'.cell? ⟨w.heap.size, 0, none⟩ = some (.int .i64 a.x) ∧ w'.cell? ⟨w.heap.size, 1, none⟩ = some (.int .i64 a.k) ∧ w'.cell? ⟨g', c * 2, none⟩ = some (.int .i64 cc.x) ∧ w'.cell? ⟨g', c * 2 + 1, none⟩ = some (.int .i64 cc.k)) (first | exact ⟨r0, r1, r2, r3, r4⟩ | exact heldU HW7.out.of_drew hbw2 hBw2 hgw2 ⟨r0, r1, r2, r3, r4⟩) (first | (go_at_call 22; refine (ahead_spec cc a _).mono ?_; rintro e w7 ⟨rfl, hw7⟩; rw [HA.out]; have HW7 := Lib.hid hw7; clear hw7))
            obtain ⟨q0, q1, q2, q3, q4⟩ := heldU HW7.out.of_drew hbw2 hBw2 hgw2 ⟨r0, r1, r2, r3, r4⟩
            clear r0 r1 r2 r3 r4
            go_wp2_with fail
            have HUS := Lib.hid (hU2.out.trans HW7.out.of_drew)
            refine (put_at b i _ (by omega) cc Lm D F _ (HR.out.mem.upd HUS.out (by simp)) (by omega) HWC.out HR.out.size).mono ?_
            rintro e w8 ⟨rfl, hm8, hu8⟩
            have HE := Lib.hid (HR.out.step HK.out HCI.out HC.out HA.out HL.out hm8 ((HUS.out.mono (by simp)).trans hu8) HFl.out)
            clear hm8 hu8
            go_wp2_with fail
            go_roundg (Lm.length - c)
            case measure => omega
            case rel => exact ⟨c, Lm.set i cc, _, _, by simp, by first | rfl | simp, HE.out⟩
          · have hac' : ahead cc a = false := by simpa using hac
            have HA := Lib.hid hac'
            clear hac hac'
            go_wp2_with fail
            go_region_held3 (fun w' => w'.cell? ⟨b, 0, none⟩ = some (.slice (some ⟨g', 0, none⟩) Lm.length cap') ∧ w'.cell? ⟨w.heap.size, 0, none⟩ = some (.int .i64 a.x) ∧ w'.cell? ⟨w.heap.size, 1, none⟩ = some (.int .i64 a.k) ∧ w'.cell? ⟨g', c * 2, none⟩ = some (.int .i64 cc.x) ∧ w'.cell? ⟨g', c * 2 + 1, none⟩ = some (.int .i64 cc.k)) (first | exact ⟨r0, r1, r2, r3, r4⟩ | exact heldU HW7.out.of_drew hbw2 hBw2 hgw2 ⟨r0, r1, r2, r3, r4⟩) (first | (go_at_call 22; refine (ahead_spec cc a _).mono ?_; rintro e w7 ⟨rfl, hw7⟩; rw [HA.out]; have HW7 := Lib.hid hw7; clear hw7))
            obtain ⟨q0, q1, q2, q3, q4⟩ := heldU HW7.out.of_drew hbw2 hBw2 hgw2 ⟨r0, r1, r2, r3, r4⟩
            clear r0 r1 r2 r3 r4
            go_wp2_with fail
            have HUS := Lib.hid (hU2.out.trans HW7.out.of_drew)
            refine (put_at b i _ (by omega) a Lm D F _ (HR.out.mem.upd HUS.out (by simp)) (by omega) HWA.out HR.out.size).mono ?_
            rintro e w8 ⟨rfl, hm8, hu8⟩
            have HE := Lib.hid (HR.out.done HK.out (HR.out.below HCI.out HC.out HA.out HL.out) hm8 ((HUS.out.mono (by simp)).trans hu8))
            clear hm8 hu8
            go_wp2_with fail
            go_end0
            exact ⟨rfl, HE.out⟩
        · have hab' : ahead cb ca = false := by simpa using hab
          have HAB := Lib.hid hab'
          clear hab hab'
          obtain ⟨c, hc⟩ : ∃ c, c = c0 := ⟨_, rfl⟩
          obtain ⟨cc, hccb⟩ : ∃ cc, cc = ca := ⟨_, rfl⟩
          have HCI : Hid (0 < c ∧ (c - 1) / 2 = i) := ⟨by have := HN.out; omega, by have := HN.out; omega⟩
          have HL : Hid (∀ j, 0 < j → (j - 1) / 2 = i → LeAt K c j) := by
            rw [hc, HN.out.1]; exact HR.out.left (by rw [← HN.out.1]; exact HCA.out) (by rw [← HN.out.2]; exact HCB.out) HAB.out
          have HC : Hid (Lm[c]? = some cc) := by rw [hc, hccb]; exact HCA.out
          have HWC := Lib.hid (HK.out.wf cc (HR.out.sub (by have := HN.out; omega) HC.out))
          subst hc
          subst hccb
          go_wp2_with fail
          go_region_held3 (fun w' => w'.cell? ⟨b, 0, none⟩ = some (.slice (some ⟨g', 0, none⟩) Lm.length cap') ∧ w'.cell? ⟨g', c * 2, none⟩ = some (.int .i64 cc.x) ∧ w'.cell? ⟨g', c * 2 + 1, none⟩ = some (.int .i64 cc.k) ∧ w'.cell? ⟨g', c1 * 2, none⟩ = some (.int .i64 cb.x) ∧ w'.cell? ⟨g', c1 * 2 + 1, none⟩ = some (.int .i64 cb.k)) (first | exact ⟨hc0, y0, y1, z0, z1⟩ | exact heldV HW6.out.of_drew hc0 y0 y1 z0 z1) (first | (go_at_call 22; refine (ahead_spec cb cc _).mono ?_; rintro e w6 ⟨rfl, hw6⟩; rw [HAB.out]; have HW6 := Lib.hid hw6; clear hw6))
          obtain ⟨r0, r3, r4, _, _⟩ := heldV HW6.out.of_drew hc0 y0 y1 z0 z1
          obtain ⟨_, r1, r2, _, _⟩ := heldV HW6.out.of_drew hc0 x0 x1 y0 y1
          have hbw2 := World.block_lt_of_cell? w6 _ r0
          have hBw2 := World.block_lt_of_cell? w6 _ r1
          have hgw2 := World.block_lt_of_cell? w6 _ r3
          have hU2 := Lib.hid (HW6.out.of_drew)
          clear hc0 x0 x1 y0 y1 z0 z1
          by_cases hac : ahead cc a = true
          · have HA := Lib.hid hac
            clear hac
            go_wp2_with fail
            go_region_held3 (fun w' => w'.cell? ⟨b, 0, none⟩ = some (.slice (some ⟨g', 0, none⟩) Lm.length cap') ∧ w'.cell? ⟨w.heap.size, 0, none⟩ = some (.int .i64 a.x) ∧ w'.cell? ⟨w.heap.size, 1, none⟩ = some (.int .i64 a.k) ∧ w'.cell? ⟨g', c * 2, none⟩ = some (.int .i64 cc.x) ∧ w'.cell? ⟨g', c * 2 + 1, none⟩ = some (.int .i64 cc.k)) (first | exact ⟨r0, r1, r2, r3, r4⟩ | exact heldU HW7.out.of_drew hbw2 hBw2 hgw2 ⟨r0, r1, r2, r3, r4⟩) (first | (go_at_call 22; refine (ahead_spec cc a _).mono ?_; rintro e w7 ⟨rfl, hw7⟩; rw [HA.out]; have HW7 := Lib.hid hw7; clear hw7))
            obtain ⟨q0, q1, q2, q3, q4⟩ := heldU HW7.out.of_drew hbw2 hBw2 hgw2 ⟨r0, r1, r2, r3, r4⟩
            clear r0 r1 r2 r3 r4
            go_wp2_with fail
            have HUS := Lib.hid (hU2.out.trans HW7.out.of_drew)
            refine (put_at b i _ (by omega) cc Lm D F _ (HR.out.mem.upd HUS.out (by simp)) (by omega) HWC.out HR.out.size).mono ?_
            rintro e w8 ⟨rfl, hm8, hu8⟩
            have HE := Lib.hid (HR.out.step HK.out HCI.out HC.out HA.out HL.out hm8 ((HUS.out.mono (by simp)).trans hu8) HFl.out)
            clear hm8 hu8
            go_wp2_with fail
            go_roundg (Lm.length - c)
            case measure => omega
            case rel => exact ⟨c, Lm.set i cc, _, _, by simp, by first | rfl | simp, HE.out⟩
          · have hac' : ahead cc a = false := by simpa using hac
            have HA := Lib.hid hac'
            clear hac hac'
            go_wp2_with fail
            go_region_held3 (fun w' => w'.cell? ⟨b, 0, none⟩ = some (.slice (some ⟨g', 0, none⟩) Lm.length cap') ∧ w'.cell? ⟨w.heap.size, 0, none⟩ = some (.int .i64 a.x) ∧ w'.cell? ⟨w.heap.size, 1, none⟩ = some (.int .i64 a.k) ∧ w'.cell? ⟨g', c * 2, none⟩ = some (.int .i64 cc.x) ∧ w'.cell? ⟨g', c * 2 + 1, none⟩ = some (.int .i64 cc.k)) (first | exact ⟨r0, r1, r2, r3, r4⟩ | exact heldU HW7.out.of_drew hbw2 hBw2 hgw2 ⟨r0, r1, r2, r3, r4⟩) (first | (go_at_call 22; refine (ahead_spec cc a _).mono ?_; rintro e w7 ⟨rfl, hw7⟩; rw [HA.out]; have HW7 := Lib.hid hw7; clear hw7))
            obtain ⟨q0, q1, q2, q3, q4⟩ := heldU HW7.out.of_drew hbw2 hBw2 hgw2 ⟨r0, r1, r2, r3, r4⟩
            clear r0 r1 r2 r3 r4
            go_wp2_with fail
            have HUS := Lib.hid (hU2.out.trans HW7.out.of_drew)
            refine (put_at b i _ (by omega) a Lm D F _ (HR.out.mem.upd HUS.out (by simp)) (by omega) HWA.out HR.out.size).mono ?_
            rintro e w8 ⟨rfl, hm8, hu8⟩
            have HE := Lib.hid (HR.out.done HK.out (HR.out.below HCI.out HC.out HA.out HL.out) hm8 ((HUS.out.mono (by simp)).trans hu8))
            clear hm8 hu8
            go_wp2_with fail
            go_end0
            exact ⟨rfl, HE.out⟩
end Go.Proofs.Ytjgmbgdbhpfciaa
