/- The example of the layer, walked; InteractNil, walked. -/
import Derived.Test.YtnenhecnkidnpaaIP
import Derived.Test.YtnenhecnkidnpaaCE
import Derived.Test.YtnenhecnkidnpaaLA
namespace Go.Proofs.Ytnenhecnkidnpaa
open Go.RowKit Go.Maps Go.ChangeMaps Go.WideShapes

set_option maxRecDepth 100000 in
set_option maxHeartbeats 800000 in
theorem sets_spec (va vb : Value) (ba bb : Nat) (l1 l2 : List Int) (w : World) (h1 : w.ownsRow ba 59 1 va l1.length (flatU l1)) (h2 : w.ownsRow bb 59 1 vb l2.length (flatU l2)) (hl : l1.length ≤ 1099511627776) (_hl2 : l2.length ≤ 1099511627776) :
    Calls Try.prog 27 #[va, vb] w fun e w' => e = .returned (.bool (decide (l1 = l2))) ∧ Upd [] w w' := by
  obtain ⟨fa, ca, rfl, _⟩ := row_nil_len h1
  obtain ⟨fb, cb, rfl, _⟩ := row_nil_len h2
  have H1 := Lib.hid (And.intro h1 h2)
  clear h1 h2
  by_cases hn : l1.length = l2.length
  · have hne1 : ((l1.length : Int) == (l2.length : Int)) = true := by rw [beq_iff_eq]; omega
    have hne2 : (l1.length : Int) = (l2.length : Int) := by omega
    go_enter Try.func27, Try.ntmps27
    go_wp2_with fail
    go_loopg [13] l1.length (fun g s13 wr => ∃ i : Nat, l1.length - i = g ∧ i ≤ l1.length ∧ s13 = .int .i64 i ∧ l1.take i = l2.take i ∧ Upd [] w wr)
    case atStart => exact ⟨0, by omega, by omega, rfl, rfl, Upd.refl _ _⟩
    case round =>
      obtain ⟨i, rfl, hi, rfl, ht, hU⟩ := hrel
      by_cases hlt : i < l1.length
      · obtain ⟨x, hx⟩ : ∃ x, l1[i]? = some x := ⟨_, List.getElem?_eq_getElem hlt⟩
        obtain ⟨y, hy⟩ : ∃ y, l2[i]? = some y := ⟨_, List.getElem?_eq_getElem (by omega)⟩
        obtain ⟨ga, rfl⟩ := row_some H1.out.1 (by omega)
        obtain ⟨gb, rfl⟩ := row_some H1.out.2 (by omega)
        have r1 := row_keep H1.out.1 fun k hk => hU.block k (H1.out.1.lt k hk).2 (by simp)
        have r2 := row_keep H1.out.2 fun k hk => hU.block k (H1.out.2.lt k hk).2 (by simp)
        have c1 := row_cell r1 (j := i) (u := .int .u64 x) (by simp [flatU, hx])
        have c2 := row_cell r2 (j := i) (u := .int .u64 y) (by simp [flatU, hy])
        have hil : (i : Int) < (l1.length : Int) := by omega
        have hil2 : (i : Int) < (l2.length : Int) := by omega
        by_cases hxy : x = y
        · have hb1 : (x == y) = true := by simpa using hxy
          have HE : Hid (l1.take (i + 1) = l2.take (i + 1) ∧ Upd [] w wr) := ⟨by rw [List.take_add_one, List.take_add_one, ht, hx, hy, hxy], hU⟩
          clear ht hU r1 r2 hx hy
          go_wp2_with fail
          go_region
          go_wp2_with fail
          go_roundg (l1.length - (i + 1))
          case measure => omega
          case rel => exact ⟨i + 1, rfl, by omega, by simp, HE.out.1, HE.out.2.drew⟩
        · have hb1 : (x == y) = false := by simpa using hxy
          have HE : Hid (l1 ≠ l2 ∧ Upd [] w wr) := ⟨fun e => hxy (by rw [e, hy] at hx; exact (Option.some.inj hx).symm), hU⟩
          clear ht hU r1 r2 hx hy
          go_wp2_with fail
          go_region
          go_wp2_with fail
          go_ret
          exact ⟨by rw [decide_eq_false HE.out.1]; rfl, HE.out.2.drew⟩
      · obtain rfl : i = l1.length := by omega
        have hil : ¬ ((l1.length : Int) < (l1.length : Int)) := by omega
        have HE : Hid (l1 = l2 ∧ Upd [] w wr) := ⟨by rw [List.take_length, hn, List.take_length] at ht; exact ht, hU⟩
        clear ht hU
        go_wp2_with fail
        go_ret
        exact ⟨by rw [decide_eq_true HE.out.1]; rfl, HE.out.2⟩
  · have hne1 : ((l1.length : Int) == (l2.length : Int)) = false := by rw [beq_eq_false_iff_ne]; omega
    have hne2 : ¬ ((l1.length : Int) = (l2.length : Int)) := by omega
    have HE : Hid (l1 ≠ l2) := fun e => hn (by rw [e])
    go_enter Try.func27, Try.ntmps27
    go_wp2_with fail
    go_ret
    exact ⟨by rw [decide_eq_false HE.out]; rfl, Upd.refl _ _⟩

/-! ### the example, as data -/
theorem Hangs.var {t : (Nat → Bool) → Bool} {a : Nat} (h : ∀ y, t y = y a) (v : Nat) : Hangs t v ↔ v = a := by
  constructor
  · rintro ⟨y, hy⟩
    rw [h, h] at hy
    by_cases e : v = a
    · exact e
    · simp [upd, Ne.symm e] at hy
  · rintro rfl
    exact ⟨fun _ => true, by rw [h, h]; simp [upd]⟩
theorem Hangs.and {t : (Nat → Bool) → Bool} {a b : Nat} (h : ∀ y, t y = (y a && y b)) (v : Nat) : Hangs t v ↔ v = a ∨ v = b := by
  constructor
  · rintro ⟨y, hy⟩
    rw [h, h] at hy
    by_cases e : v = a ∨ v = b
    · exact e
    · simp [upd, show ¬ a = v by omega, show ¬ b = v by omega] at hy
  · intro e
    refine ⟨fun _ => true, ?_⟩
    rw [h, h]
    rcases e with rfl | rfl <;> simp [upd]

theorem u64_small (n : Nat) (h : n < 64) : U64 (n : Int) := by unfold U64; omega

theorem sup_var {K : KV} {r a : Nat} {s : Int} (hk : K.Ok) (hu : K.Uni) (ht : K.A.tk r = true) (hs : SupIs K r s) (h : ∀ y, K.den r y = y a) (ha : a < 64) : s = IntKind.u64.wrap (2 ^ a) := by
  obtain ⟨h1, h2⟩ := hs.bits hk hu ht
  refine nb_ext h1 (wrap_u64 _) fun i _ => ?_
  rw [nb_pow ha, Bool.eq_iff_iff, h2, Hangs.var h, decide_eq_true_eq, eq_comm]
theorem sup_and {K : KV} {r a b : Nat} {s : Int} (hk : K.Ok) (hu : K.Uni) (ht : K.A.tk r = true) (hs : SupIs K r s) (h : ∀ y, K.den r y = (y a && y b)) (ha : a < 64) (hb : b < 64) : s = bits BinOp.or IntKind.u64 (IntKind.u64.wrap (2 ^ a)) (IntKind.u64.wrap (2 ^ b)) := by
  obtain ⟨h1, h2⟩ := hs.bits hk hu ht
  refine nb_ext h1 (bits_u64 _ _ _) fun i _ => ?_
  rw [nb_or (wrap_u64 _) (wrap_u64 _), nb_pow ha, nb_pow hb, Bool.eq_iff_iff, h2, Hangs.and h, Bool.or_eq_true, decide_eq_true_eq, decide_eq_true_eq, eq_comm (a := i), eq_comm (a := i)]

theorem mat_keep (ss : List Int) (h : ∀ s, s ∈ ss → s = 1 ∨ s = 4 ∨ s = 5) : ss.foldl (matRow 4) [4, 0, 1, 0] = [4, 0, 1, 0] := by
  induction ss with
  | nil => rfl
  | cons s ss ih =>
    rw [List.foldl_cons]
    have : matRow 4 [4, 0, 1, 0] s = [4, 0, 1, 0] := by
      rcases h s (by simp) with rfl | rfl | rfl
      · decide +kernel
      · decide +kernel
      · decide +kernel
    rw [this]; exact ih fun s hs => h s (by simp [hs])
theorem mat_awake (ss : List Int) (h : ∀ s, s ∈ ss → s = 1 ∨ s = 4 ∨ s = 5) (h5 : (5 : Int) ∈ ss) : ss.foldl (matRow 4) [0, 0, 0, 0] = [4, 0, 1, 0] := by
  induction ss with
  | nil => simp at h5
  | cons s ss ih =>
    rw [List.foldl_cons]
    have hh := fun s hs => h s (List.mem_cons_of_mem _ hs)
    by_cases e : s = 5
    · subst e
      have : matRow 4 [0, 0, 0, 0] 5 = [4, 0, 1, 0] := by decide +kernel
      rw [this]; exact mat_keep ss hh
    · have : matRow 4 [0, 0, 0, 0] s = [0, 0, 0, 0] := by
        rcases h s (by simp) with rfl | rfl | rfl
        · decide +kernel
        · decide +kernel
        · exact absurd rfl e
      rw [this]
      exact ih hh (by rcases List.mem_cons.1 h5 with h | h; · exact absurd h.symm e
                      · exact h)

theorem ThreeW.mat {K : KV} {m r1 r2 f : Nat} {ss : List Int} (h : ThreeW K 4 m 0 2 r1 r2 f) (hu : K.Uni) (hS : SupL K K.roots ss) : ss.foldl (matRow K.vars) (List.replicate K.vars 0) = [4, 0, 1, 0] := by
  have hk := h.pl.ok
  rw [h.pl.vr]
  have one : ∀ (r : Nat) (s : Int), r ∈ K.roots → SupIs K r s → (s = 1 ∨ s = 4 ∨ s = 5) ∧ (r = f → s = 5) := by
    intro r s hr hs
    have hh := KV.mem_roots.1 hr
    obtain ⟨h2, ht⟩ := hk.wf.ht r hh
    have c := (h.tk r).1 ht
    have cf : r = f → s = 5 := by
      rintro rfl
      rw [sup_and hk hu ht hs h.df (by omega) (by omega)]; decide +kernel
    refine ⟨?_, cf⟩
    rcases c with c | c | c | c | c
    · omega
    · omega
    · subst c; left
      rw [sup_var hk hu ht hs h.d1 (by omega)]; decide +kernel
    · subst c; right; left
      rw [sup_var hk hu ht hs h.d2 (by omega)]; decide +kernel
    · right; right; exact cf c
  refine mat_awake ss (fun s hs => ?_) ?_
  · obtain ⟨i, hi⟩ := List.getElem?_of_mem hs
    have hl : i < ss.length := by
      by_cases h : i < ss.length
      · exact h
      · rw [List.getElem?_eq_none (by omega)] at hi; cases hi
    have hr : K.roots[i]? = some (K.roots[i]'(by rw [← hS.1]; exact hl)) := List.getElem?_eq_getElem _
    exact (one _ s (List.mem_of_getElem? hr) (hS.2 i _ s hr hi)).1
  · have hf : f ∈ K.roots := KV.mem_roots.2 (by rw [h.hf]; omega)
    obtain ⟨i, hi⟩ := List.getElem?_of_mem hf
    have hl : i < K.roots.length := by
      by_cases h : i < K.roots.length
      · exact h
      · rw [List.getElem?_eq_none (by omega)] at hi; cases hi
    have hs : ss[i]? = some (ss[i]'(by rw [hS.1]; exact hl)) := List.getElem?_eq_getElem _
    have := (one f _ hf (hS.2 i f _ hi hs)).2 rfl
    rw [← this]; exact List.mem_of_getElem? hs

theorem Grow.inv {M : List Int} {n : Nat} {g z : Int} (h : Grow M n g z) : ((sweepTo M n g).2 = false ∧ z = g) ∨ ((sweepTo M n g).2 = true ∧ Grow M n (sweepTo M n g).1 z) := by
  cases h with
  | done h => exact .inl ⟨h, rfl⟩
  | more h k => exact .inr ⟨h, k⟩
theorem GrR.inv {M : List Int} {n v : Nat} {d : Int} {gs : List Int} (h : GrR M n (v + 1) d gs) : (bitT d v = true ∧ GrR M n v d gs) ∨ ∃ (d0 g : Int) (gs0 : List Int), bitT d0 v = false ∧ GrR M n v d0 gs0 ∧ Grow M n (IntKind.u64.wrap (2 ^ v)) g ∧ d = bits BinOp.or IntKind.u64 d0 g ∧ gs = gs0 ++ [g] := by
  cases h with
  | skip h hb => exact .inl ⟨hb, h⟩
  | take h hb k => exact .inr ⟨_, _, _, hb, h, k, rfl, rfl⟩
theorem GrR.inv0 {M : List Int} {n : Nat} {d : Int} {gs : List Int} (h : GrR M n 0 d gs) : d = 0 ∧ gs = [] := by
  cases h; exact ⟨rfl, rfl⟩

theorem groups_awake {d : Int} {gs : List Int} (h : GrR [4, 0, 1, 0] 4 4 d gs) : gs = [5, 2, 8] := by
  have s1 : sweepTo [4, 0, 1, 0] 4 (IntKind.u64.wrap (2 ^ 0)) = (5, true) := by decide +kernel
  have s5 : sweepTo [4, 0, 1, 0] 4 5 = (5, false) := by decide +kernel
  have s2 : sweepTo [4, 0, 1, 0] 4 (IntKind.u64.wrap (2 ^ 1)) = (2, false) := by decide +kernel
  have s8 : sweepTo [4, 0, 1, 0] 4 (IntKind.u64.wrap (2 ^ 3)) = (8, false) := by decide +kernel
  have G1 : ∀ {d gs}, GrR [4, 0, 1, 0] 4 1 d gs → d = 5 ∧ gs = [5] := by
    intro d gs h
    rcases h.inv with ⟨hb, h0⟩ | ⟨d0, g, gs0, hb, h0, k, rfl, rfl⟩
    · obtain ⟨rfl, _⟩ := h0.inv0
      exact absurd hb (by decide +kernel)
    · obtain ⟨rfl, rfl⟩ := h0.inv0
      rcases k.inv with ⟨k, _⟩ | ⟨_, k⟩
      · rw [s1] at k; cases k
      · rw [s1] at k
        rcases k.inv with ⟨_, rfl⟩ | ⟨k, _⟩
        · exact ⟨by decide +kernel, rfl⟩
        · rw [s5] at k; cases k
  have G2 : ∀ {d gs}, GrR [4, 0, 1, 0] 4 2 d gs → d = 7 ∧ gs = [5, 2] := by
    intro d gs h
    rcases h.inv with ⟨hb, h0⟩ | ⟨d0, g, gs0, hb, h0, k, rfl, rfl⟩
    · obtain ⟨rfl, _⟩ := G1 h0
      exact absurd hb (by decide +kernel)
    · obtain ⟨rfl, rfl⟩ := G1 h0
      rcases k.inv with ⟨_, rfl⟩ | ⟨k, _⟩
      · exact ⟨by decide +kernel, by decide +kernel⟩
      · rw [s2] at k; cases k
  have G3 : ∀ {d gs}, GrR [4, 0, 1, 0] 4 3 d gs → d = 7 ∧ gs = [5, 2] := by
    intro d gs h
    rcases h.inv with ⟨hb, h0⟩ | ⟨d0, g, gs0, hb, h0, k, rfl, rfl⟩
    · exact G2 h0
    · obtain ⟨rfl, rfl⟩ := G2 h0
      exact absurd hb (by decide +kernel)
  rcases h.inv with ⟨hb, h0⟩ | ⟨d0, g, gs0, hb, h0, k, rfl, rfl⟩
  · obtain ⟨rfl, _⟩ := G3 h0
    exact absurd hb (by decide +kernel)
  · obtain ⟨rfl, rfl⟩ := G3 h0
    rcases k.inv with ⟨_, rfl⟩ | ⟨k, _⟩
    · decide +kernel
    · rw [s8] at k; cases k

/-- no node of 0 has a child of 1 -/
theorem ThreeW.free {K : KV} {m r1 r2 f : Nat} (h : ThreeW K 4 m 0 2 r1 r2 f) (hu : K.Uni) : K.FreeUV ((0 : Nat) : Int) ((1 : Nat) : Int) := by
  have hk := h.pl.ok
  have key : ∀ r, K.A.tk r = true → K.vr r ≠ 1 := by
    intro r ht e
    by_cases h2 : 2 ≤ r
    · obtain ⟨p, v, hp, hpt, hpv, hv, _⟩ := hk.wf.node_at h2 ht
      have e1 := KV.vr_at hp
      have hh := hk.hangs_of hu ht (.refl h2) hp
      rw [hpv] at e1 hh
      simp only [Int.toNat_natCast] at hh
      have hv1 : v = 1 := by omega
      subst hv1
      rcases (h.tk r).1 ht with c | c | c | c | c
      · omega
      · omega
      · subst c; have := (Hangs.var h.d1 1).1 hh; omega
      · subst c; have := (Hangs.var h.d2 1).1 hh; omega
      · subst c; have := (Hangs.and h.df 1).1 hh; omega
    · obtain ⟨p, hp, hpt⟩ := ArenaV.tk_iff.1 ht
      have e1 := KV.vr_at hp
      have := hk.wf.const_var (by omega) hp
      omega
  rintro r p h2 hp hpt ⟨_, hh⟩
  have hcl := hk.wf.cl r p h2 hp hpt
  rcases hh with hh | hh
  · exact key _ hcl.1 hh
  · exact key _ hcl.2 hh

theorem Plain.order {K : KV} {n m l : Nat} (h : Plain K n m) (hl : l < n) : K.order.getD l 0 = l := by
  have h1 := h.ok.ord.pm.oo l (by rw [h.vr]; exact hl)
  have h2 := h.lv (K.order.getD l 0) (by rw [← h.vr]; exact h1.1)
  omega

set_option maxRecDepth 100000 in
set_option maxHeartbeats 1600000 in
/-- The example answers true. -/
theorem awake14_spec (w : World) : Calls Try.prog 8 #[] w fun e w' => e = .returned (.bool true) ∧ Upd [] w w' := by
  have HROW : Hid (∀ (w : World) (vs : Array Value) (n : Nat), vs.size = n → n ≤ 100 → (w.alloc (.cells vs 59 (0, 0))).ownsRow 0 59 1 (.slice (some ⟨w.heap.size, 0, none⟩) n n) n vs.toList) := fun w vs n h1 h2 =>
    World.ownsRow_lit (base := 0) (e := 59) (size := 1) w vs n (Nat.zero_le _) (by unfold maxLen; omega) (by omega)
  go_enter Try.func8, Try.ntmps8
  go_wp2_with fail
  refine (knew_spec 4 20 w (by omega) (by omega) (by omega) (by omega)).mono ?_
  rintro e w1 ⟨b, T, q, rfl, hk, hu, hs⟩
  have H1 := Lib.hid (And.intro hk (And.intro hu hs))
  clear hk hu hs
  go_wp2_with fail
  refine (var_live b 0 _ T q w1 H1.out.1).mono ?_
  rintro e w2 hE
  obtain ⟨r1, c1, K1, T1, q1, rfl, M1, hk, hu, hs⟩ := hE.ex
  have H2 := Lib.hid (And.intro M1 (And.intro hk (And.intro (H1.out.2.1.then hu fun x hx => (H1.out.2.2 x hx)) (sub_trans H1.out.2.2 hs H1.out.2.1.size))))
  clear hE M1 hk hu hs
  go_wp2_with fail
  refine (var_live b 2 _ T1 q1 w2 H2.out.2.1).mono ?_
  rintro e w3 hE
  obtain ⟨r2, c2, K2, T2, q2, rfl, M2, hk, hu, hs⟩ := hE.ex
  obtain ⟨rfl, rfl, hT⟩ := two_vars2 (a := 0) (b := 2) (by omega) (by omega) (by omega) (by omega) H2.out.2.1.ok (H2.out.2.1.ti.uni H2.out.2.1.ok.wf) hk.ok (hk.ti.uni hk.ok.wf) H2.out.1 M2
  have H3 := Lib.hid (And.intro hT (And.intro hk (And.intro (H2.out.2.2.1.then hu fun x hx => (H2.out.2.2.2 x hx)) (sub_trans H2.out.2.2.2 hs H2.out.2.2.1.size))))
  clear hE M2 hk hu hs hT
  go_wp2_with fail
  refine (and_live b r1 r2 K2 T2 q2 w3 H3.out.2.1 ((H3.out.1.tk r1).2 (by simp)) ((H3.out.1.tk r2).2 (by simp))).mono ?_
  rintro e w4 hE
  obtain ⟨f, c3, K3, T3, q3, rfl, O3, hk, hu, hs⟩ := hE.ex
  obtain ⟨rfl, hN⟩ := H3.out.1.and (by omega) hk.ok (hk.ti.uni hk.ok.wf) O3
  have H4 := Lib.hid (And.intro hN (And.intro hk (And.intro (H3.out.2.2.1.then hu fun x hx => (H3.out.2.2.2 x hx)) (sub_trans H3.out.2.2.2 hs H3.out.2.2.1.size))))
  have hf2 := hN.f2
  have hgt : (1 : Int) < (f : Int) := by omega
  have hgt2 : ¬ ((f : Int) ≤ 1) := by omega
  clear hE O3 hk hu hs hN
  go_wp2_with fail
  refine (free_spec b 0 K3 T3 q3 w4 H4.out.2.1 (by rw [H4.out.1.pl.vr]; omega) 0 1 (H4.out.1.pl.order (by omega)) (H4.out.1.pl.order (by omega))).mono ?_
  rintro e w5 hE
  obtain ⟨fr, rfl, hfr, hu⟩ := hE.ex
  have hfr1 : fr = true := hfr.2 (H4.out.1.free (H4.out.2.1.ti.uni H4.out.2.1.ok.wf))
  clear hfr
  have H5 := Lib.hid (And.intro (H4.out.2.1.upd hu (by simp)) (H4.out.2.2.1.then hu (by simp)))
  clear hE hu
  go_wp2_with fail
  refine (matrix_spec b K3 T3 q3 w5 H5.out.1).mono ?_
  rintro e w6 ⟨g, ss, rfl, hS, hM⟩
  rw [H4.out.1.mat (H4.out.2.1.ti.uni H4.out.2.1.ok.wf) hS, H4.out.1.pl.vr] at hM
  rw [H4.out.1.pl.vr]
  have H6 := Lib.hid hM
  clear hS hM
  go_wp2_with fail
  refine (sets_spec _ _ _ 0 [4, 0, 1, 0] [4, 0, 1, 0] _ (H6.out.row.alloc _) (HROW.out w6 _ _ rfl (by decide)) (by simp) (by simp)).mono ?_
  rintro e w7 ⟨rfl, hu⟩
  have H7 := Lib.hid (And.intro (H5.out.1.upd ((H6.out.up.alloc _).trans hu) (by simp)) (H5.out.2.then ((H6.out.up.alloc _).trans hu) (by simp)))
  clear hu
  simp only [decide_true]
  go_wp2_with fail
  refine (groups_spec b K3 T3 q3 w7 H7.out.1).mono ?_
  rintro e w8 hE
  obtain ⟨lv, ss, d, gs, rfl, hS, hG, hrow, hu⟩ := hE.ex
  rw [H4.out.1.mat (H4.out.2.1.ti.uni H4.out.2.1.ok.wf) hS, H4.out.1.pl.vr] at hG
  obtain rfl := groups_awake hG
  have H8 := Lib.hid (And.intro hrow (H7.out.2.then hu (by simp)))
  clear hE hS hG hrow hu
  go_wp2_with fail
  refine (sets_spec _ _ _ 0 [5, 2, 8] [5, 2, 8] _ (H8.out.1.alloc _) (HROW.out w8 _ _ rfl (by decide)) (by simp) (by simp)).mono ?_
  rintro e w9 ⟨rfl, hu⟩
  have H9 := Lib.hid ((H8.out.2.alloc _).then hu (by simp))
  clear hu
  simp only [decide_true]
  go_wp2_with fail
  go_ret
  exact ⟨rfl, H9.out⟩

set_option maxRecDepth 100000 in
theorem matrix_nil (w : World) : Calls Try.prog 9 #[.pointer none] w fun e w' => e = .returned (.slice none 0 0) ∧ Upd [] w w' := by
  go_enter Try.func9, Try.ntmps9
  go_wp2_with fail
  go_ret
  exact ⟨rfl, Upd.refl _ _⟩

set_option maxRecDepth 100000 in
theorem groups_nil (w : World) : Calls Try.prog 10 #[.pointer none] w fun e w' => e = .returned (.slice none 0 0) ∧ Upd [] w w' := by
  go_enter Try.func10, Try.ntmps10
  go_wp2_with fail
  refine (matrix_nil _).mono ?_
  rintro e w1 ⟨rfl, hu⟩
  have HU := Lib.hid hu
  clear hu
  go_wp2_with fail
  go_loopg [4, 14] 0 (fun gg s4 s14 wr => gg = 0 ∧ s4 = .slice none 0 0 ∧ s14 = .int .i64 0 ∧ Upd [] w wr)
  case atStart => exact ⟨rfl, rfl, rfl, HU.out⟩
  case round =>
    obtain ⟨rfl, rfl, rfl, hU⟩ := hrel
    have HU2 := Lib.hid hU
    clear hU
    go_wp2_with fail
    go_ret
    exact ⟨rfl, HU2.out⟩

set_option maxRecDepth 100000 in
set_option maxHeartbeats 800000 in
theorem interactNil_walk (l : Int) (w : World) : Calls Try.prog 4 #[.int .i64 l] w fun e w' => e = .returned (.bool true) ∧ Upd [] w w' := by
  go_enter Try.func4, Try.ntmps4
  go_wp2_with fail
  refine (free_nil l _).mono ?_
  rintro e w1 ⟨rfl, hu⟩
  have H1 := Lib.hid hu
  clear hu
  go_wp2_with fail
  refine (awake14_spec _).mono ?_
  rintro e w2 ⟨rfl, hu⟩
  have H2 := Lib.hid (H1.out.trans hu)
  clear hu
  go_wp2_with fail
  refine (matrix_nil _).mono ?_
  rintro e w3 ⟨rfl, hu⟩
  have H3 := Lib.hid (H2.out.trans hu)
  clear hu
  go_wp2_with fail
  refine (groups_nil _).mono ?_
  rintro e w4 ⟨rfl, hu⟩
  have H4 := Lib.hid (H3.out.trans hu)
  clear hu
  go_wp2_with fail
  go_ret
  exact ⟨rfl, H4.out⟩
end Go.Proofs.Ytnenhecnkidnpaa
