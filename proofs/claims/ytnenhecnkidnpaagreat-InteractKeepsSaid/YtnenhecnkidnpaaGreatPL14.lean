/- The calls as they are named; of no kernel; the first example, walked. -/
import Derived.Test.YtnenhecnkidnpaaGreatPL13
namespace Go.Proofs.YtnenhecnkidnpaaGreat
open Go.RowKit Go.Maps Go.ChangeMaps Go.WideShapes

/-- Make's post -/
structure MakePost (b : Nat) (v : Int) (lo hi : Nat) (K : KV) (q : KPtr) (w : World) (e : Ending) (w' : World) : Prop where
  ex : ∃ (r : Nat) (code : Int) (K' : KV) (T' : List DM) (q' : KPtr), e = .returned (.tuple #[.int .u32 r, .int .i64 code]) ∧ MakeR K v lo hi r code K' ∧ KerIn w' b K' T' q' ∧ Upd (q.all b) w w' ∧ Sub (q.all b) w (q'.all b)

set_option maxRecDepth 100000 in
theorem var_live (b : Nat) (v : Int) (K : KV) (T : List DM) (q : KPtr) (w : World) (h : KerIn w b K T q) :
    Calls Tryz.prog 53 #[.pointer (some ⟨b, 0, none⟩), .int .i64 v] w fun e w' => MakePost b v 0 1 K q w e w' := by
  have HK := Lib.hid h
  clear h
  go_enter Tryz.func53, Tryz.ntmps53
  go_wp2_with fail
  refine (make_spec b v 0 1 K T q w HK.out (by omega) (by omega)).mono ?_
  rintro e w1 ⟨r, code, K', T', q', rfl, hE⟩
  have HE := Lib.hid hE
  clear hE
  go_wp2_with fail
  go_ret2
  exact ⟨r, code, K', T', q', rfl, HE.out⟩

set_option maxRecDepth 100000 in
theorem and_live (b f g : Nat) (K : KV) (T : List DM) (q : KPtr) (w : World) (h : KerIn w b K T q) (hf : K.A.tk f = true) (hg : K.A.tk g = true) :
    Calls Tryz.prog 16 #[.pointer (some ⟨b, 0, none⟩), .int .u32 f, .int .u32 g] w fun e w' => OpPost b K q (K.fun3 (fun x y _ => opB 8 x y) f g 0) w e w' := by
  have HC := Lib.hid (binary_live b 8 f g K T q w h (by omega) hf hg)
  clear h hf hg
  go_enter Tryz.func16, Tryz.ntmps16
  go_wp2_with fail
  refine HC.out.mono ?_
  rintro e w1 hE
  obtain ⟨r, code, K', T', q', rfl, hP⟩ := hE.ex
  have HE := Lib.hid hP
  clear hE hP HC
  go_wp2_with fail
  go_ret2
  exact ⟨r, code, K', T', q', rfl, HE.out⟩

set_option maxRecDepth 100000 in
theorem or_live (b f g : Nat) (K : KV) (T : List DM) (q : KPtr) (w : World) (h : KerIn w b K T q) (hf : K.A.tk f = true) (hg : K.A.tk g = true) :
    Calls Tryz.prog 17 #[.pointer (some ⟨b, 0, none⟩), .int .u32 f, .int .u32 g] w fun e w' => OpPost b K q (K.fun3 (fun x y _ => opB 14 x y) f g 0) w e w' := by
  have HC := Lib.hid (binary_live b 14 f g K T q w h (by omega) hf hg)
  clear h hf hg
  go_enter Tryz.func17, Tryz.ntmps17
  go_wp2_with fail
  refine HC.out.mono ?_
  rintro e w1 hE
  obtain ⟨r, code, K', T', q', rfl, hP⟩ := hE.ex
  have HE := Lib.hid hP
  clear hE hP HC
  go_wp2_with fail
  go_ret2
  exact ⟨r, code, K', T', q', rfl, HE.out⟩

set_option maxRecDepth 100000 in
theorem xor_live (b f g : Nat) (K : KV) (T : List DM) (q : KPtr) (w : World) (h : KerIn w b K T q) (hf : K.A.tk f = true) (hg : K.A.tk g = true) :
    Calls Tryz.prog 18 #[.pointer (some ⟨b, 0, none⟩), .int .u32 f, .int .u32 g] w fun e w' => OpPost b K q (K.fun3 (fun x y _ => opB 6 x y) f g 0) w e w' := by
  have HC := Lib.hid (binary_live b 6 f g K T q w h (by omega) hf hg)
  clear h hf hg
  go_enter Tryz.func18, Tryz.ntmps18
  go_wp2_with fail
  refine HC.out.mono ?_
  rintro e w1 hE
  obtain ⟨r, code, K', T', q', rfl, hP⟩ := hE.ex
  have HE := Lib.hid hP
  clear hE hP HC
  go_wp2_with fail
  go_ret2
  exact ⟨r, code, K', T', q', rfl, HE.out⟩

set_option maxRecDepth 100000 in
set_option maxHeartbeats 1600000 in
/-- The first example answers true. -/
theorem awake10_spec (w : World) : Calls Tryz.prog 13 #[] w fun e w' => e = .returned (.bool true) ∧ Upd [] w w' := by
  go_enter Tryz.func13, Tryz.ntmps13
  go_wp2_with fail
  refine (knew_spec 3 20 w (by omega) (by omega) (by omega) (by omega)).mono ?_
  rintro e w1 ⟨b, T, q, rfl, hk, hu, hs⟩
  have H1 := Lib.hid (And.intro hk (And.intro hu hs))
  clear hk hu hs
  go_wp2_with fail
  refine (var_live b 0 _ T q w1 H1.out.1).mono ?_
  rintro e w2 hE
  obtain ⟨r1, c1, K1, T1, q1, rfl, M1, hk, hu, hs⟩ := hE.ex
  have H2 := Lib.hid (And.intro M1 (And.intro hk (And.intro (H1.out.2.1.then hu fun x hx => (H1.out.2.2 x hx)) (sub_trans H1.out.2.2 hs H1.out.2.1.size))))
  clear hE M1 hk hu hs
  go_wp2_with fail
  refine (var_live b 1 _ T1 q1 w2 H2.out.2.1).mono ?_
  rintro e w3 hE
  obtain ⟨r2, c2, K2, T2, q2, rfl, M2, hk, hu, hs⟩ := hE.ex
  obtain ⟨rfl, rfl, hT⟩ := two_vars (by omega) (by omega) (by omega) (by omega) H2.out.2.1.ok (H2.out.2.1.ti.uni H2.out.2.1.ok.wf) hk.ok (hk.ti.uni hk.ok.wf) H2.out.1 M2
  have H3 := Lib.hid (And.intro hT (And.intro hk (And.intro (H2.out.2.2.1.then hu fun x hx => (H2.out.2.2.2 x hx)) (sub_trans H2.out.2.2.2 hs H2.out.2.2.1.size))))
  clear hE M2 hk hu hs hT
  go_wp2_with fail
  refine (and_live b r1 r2 K2 T2 q2 w3 H3.out.2.1 ((H3.out.1.tk r1).2 (by simp)) ((H3.out.1.tk r2).2 (by simp))).mono ?_
  rintro e w4 hE
  obtain ⟨f, c3, K3, T3, q3, rfl, O3, hk, hu, hs⟩ := hE.ex
  obtain ⟨rfl, hN⟩ := H3.out.1.and (by omega) (by omega) hk.ok (hk.ti.uni hk.ok.wf) O3
  have H4 := Lib.hid (And.intro hN (And.intro hk (And.intro (H3.out.2.2.1.then hu fun x hx => (H3.out.2.2.2 x hx)) (sub_trans H3.out.2.2.2 hs H3.out.2.2.1.size))))
  clear hE O3 hk hu hs hN
  go_wp2_with fail
  refine (xor_live b f f K3 T3 q3 w4 H4.out.2.1 ((H4.out.1.tk f).2 (by simp)) ((H4.out.1.tk f).2 (by simp))).mono ?_
  rintro e w5 hE
  obtain ⟨g, c4, K4, T4, q4, rfl, O4, hk, hu, hs⟩ := hE.ex
  obtain ⟨rfl, rfl, hN⟩ := H4.out.1.xor hk.ok (hk.ti.uni hk.ok.wf) O4
  have H5 := Lib.hid (And.intro hN (And.intro hk (And.intro (H4.out.2.2.1.then hu fun x hx => (H4.out.2.2.2 x hx)) (sub_trans H4.out.2.2.2 hs H4.out.2.2.1.size))))
  clear hE O4 hk hu hs hN
  go_wp2_with fail
  refine (ite_live b r1 r2 0 K4 T4 q4 w5 H5.out.2.1 ((H5.out.1.tk r1).2 (by simp)) ((H5.out.1.tk r2).2 (by simp)) ((H5.out.1.tk 0).2 (by simp))).mono ?_
  rintro e w6 hE
  obtain ⟨h, c5, K5, T5, q5, rfl, O5, hk, hu, hs⟩ := hE.ex
  obtain ⟨rfl, rfl, hus, hho⟩ := H5.out.1.ite hk.ok (hk.ti.uni hk.ok.wf) O5
  have hf2 := H5.out.1.f2
  have hf32 := hk.ok.ref_lt (hk.ok.wf.ht h (by omega)).2
  have H6 := Lib.hid (And.intro hus (And.intro hho (And.intro hk (H5.out.2.2.1.then hu fun x hx => (H5.out.2.2.2 x hx)))))
  clear hE O5 hk hu hs hus hho
  have hgt : (1 : Int) < (h : Int) := by omega
  have hhl : K5.holds.length ≤ 1048576 := by
    have h1 := H6.out.2.2.1.ok.wf.len
    have h2 := H6.out.2.2.1.ok.wf.ul
    have h3 := H6.out.2.2.1.ok.wf.ok.lp
    have h4 := H6.out.2.2.1.ok.wf.ok.pm
    omega
  go_wp2_with fail
  refine (held_spec b h K5 T5 q5 w6 H6.out.2.2.1.mem hhl (by rw [H6.out.2.1]; omega) (by omega)).mono ?_
  rintro e w7 ⟨rfl, rfl⟩
  rw [H6.out.2.1]
  go_wp2_with fail
  refine (live_count b K5 T5 q5 _ H6.out.2.2.1.mem).mono ?_
  rintro e w8 ⟨rfl, rfl⟩
  rw [H6.out.1]
  go_wp2_with fail
  go_ret
  exact ⟨rfl, H6.out.2.2.2⟩
end Go.Proofs.YtnenhecnkidnpaaGreat


/- The example of the layer, walked. -/
namespace Go.Proofs.YtnenhecnkidnpaaGreat
open Go.RowKit Go.Maps Go.ChangeMaps Go.WideShapes

set_option maxRecDepth 100000 in
set_option maxHeartbeats 800000 in
theorem sets_spec (va vb : Value) (ba bb : Nat) (l1 l2 : List Int) (w : World) (h1 : w.ownsRow ba 65 1 va l1.length (flatU l1)) (h2 : w.ownsRow bb 65 1 vb l2.length (flatU l2)) (hl : l1.length ≤ 1099511627776) (_hl2 : l2.length ≤ 1099511627776) :
    Calls Tryz.prog 40 #[va, vb] w fun e w' => e = .returned (.bool (decide (l1 = l2))) ∧ Upd [] w w' := by
  obtain ⟨fa, ca, rfl, _⟩ := row_nil_len h1
  obtain ⟨fb, cb, rfl, _⟩ := row_nil_len h2
  have H1 := Lib.hid (And.intro h1 h2)
  clear h1 h2
  by_cases hn : l1.length = l2.length
  · have hne1 : ((l1.length : Int) == (l2.length : Int)) = true := by rw [beq_iff_eq]; omega
    have hne2 : (l1.length : Int) = (l2.length : Int) := by omega
    go_enter Tryz.func40, Tryz.ntmps40
    go_wp2_with fail
    go_loopg [13] l1.length (fun g s13 wr => ∃ i : Nat, l1.length - i = g ∧ i ≤ l1.length ∧ s13 = .int .i64 i ∧ l1.take i = l2.take i ∧ Upd [] w wr)
    case atStart => exact ⟨0, by omega, by omega, rfl, rfl, Upd.refl _ _⟩
    case round =>
      obtain ⟨i, rfl, hi, rfl, ht, hU⟩ := hrel
      by_cases hlt : i < l1.length
      · obtain ⟨x, hx⟩ : ∃ x, l1[i]? = some x := ⟨_, List.getElem?_eq_getElem hlt⟩
        obtain ⟨y, hy⟩ : ∃ y, l2[i]? = some y := ⟨_, List.getElem?_eq_getElem (by omega)⟩
        obtain ⟨ga, rfl⟩ := row_some H1.out.1 (by omega)
        obtain ⟨gb, rfl⟩ := row_some H1.out.2 (by omega)
        have r1 := row_keep H1.out.1 fun k hk => hU.block k (H1.out.1.lt k hk).2 (by simp)
        have r2 := row_keep H1.out.2 fun k hk => hU.block k (H1.out.2.lt k hk).2 (by simp)
        have c1 := row_cell r1 (j := i) (u := .int .u64 x) (by simp [flatU, hx])
        have c2 := row_cell r2 (j := i) (u := .int .u64 y) (by simp [flatU, hy])
        have hil : (i : Int) < (l1.length : Int) := by omega
        have hil2 : (i : Int) < (l2.length : Int) := by omega
        by_cases hxy : x = y
        · have hb1 : (x == y) = true := by simpa using hxy
          have HE : Hid (l1.take (i + 1) = l2.take (i + 1) ∧ Upd [] w wr) := ⟨by rw [List.take_add_one, List.take_add_one, ht, hx, hy, hxy], hU⟩
          clear ht hU r1 r2 hx hy
          go_wp2_with fail
          go_region
          go_wp2_with fail
          go_roundg (l1.length - (i + 1))
          case measure => omega
          case rel => exact ⟨i + 1, rfl, by omega, by simp, HE.out.1, HE.out.2.drew⟩
        · have hb1 : (x == y) = false := by simpa using hxy
          have HE : Hid (l1 ≠ l2 ∧ Upd [] w wr) := ⟨fun e => hxy (by rw [e, hy] at hx; exact (Option.some.inj hx).symm), hU⟩
          clear ht hU r1 r2 hx hy
          go_wp2_with fail
          go_region
          go_wp2_with fail
          go_ret
          exact ⟨by rw [decide_eq_false HE.out.1]; rfl, HE.out.2.drew⟩
      · obtain rfl : i = l1.length := by omega
        have hil : ¬ ((l1.length : Int) < (l1.length : Int)) := by omega
        have HE : Hid (l1 = l2 ∧ Upd [] w wr) := ⟨by rw [List.take_length, hn, List.take_length] at ht; exact ht, hU⟩
        clear ht hU
        go_wp2_with fail
        go_ret
        exact ⟨by rw [decide_eq_true HE.out.1]; rfl, HE.out.2⟩
  · have hne1 : ((l1.length : Int) == (l2.length : Int)) = false := by rw [beq_eq_false_iff_ne]; omega
    have hne2 : ¬ ((l1.length : Int) = (l2.length : Int)) := by omega
    have HE : Hid (l1 ≠ l2) := fun e => hn (by rw [e])
    go_enter Tryz.func40, Tryz.ntmps40
    go_wp2_with fail
    go_ret
    exact ⟨by rw [decide_eq_false HE.out]; rfl, Upd.refl _ _⟩

/-! ### the example, as data -/
theorem Hangs.var {t : (Nat → Bool) → Bool} {a : Nat} (h : ∀ y, t y = y a) (v : Nat) : Hangs t v ↔ v = a := by
  constructor
  · rintro ⟨y, hy⟩
    rw [h, h] at hy
    by_cases e : v = a
    · exact e
    · simp [upd, Ne.symm e] at hy
  · rintro rfl
    exact ⟨fun _ => true, by rw [h, h]; simp [upd]⟩
theorem Hangs.and {t : (Nat → Bool) → Bool} {a b : Nat} (h : ∀ y, t y = (y a && y b)) (v : Nat) : Hangs t v ↔ v = a ∨ v = b := by
  constructor
  · rintro ⟨y, hy⟩
    rw [h, h] at hy
    by_cases e : v = a ∨ v = b
    · exact e
    · simp [upd, show ¬ a = v by omega, show ¬ b = v by omega] at hy
  · intro e
    refine ⟨fun _ => true, ?_⟩
    rw [h, h]
    rcases e with rfl | rfl <;> simp [upd]

theorem sup_var {K : KV} {r a : Nat} {s : Int} (hk : K.Ok) (hu : K.Uni) (ht : K.A.tk r = true) (hs : SupIs K r s) (h : ∀ y, K.den r y = y a) (ha : a < 64) : s = IntKind.u64.wrap (2 ^ a) := by
  obtain ⟨h1, h2⟩ := hs.bits hk hu ht
  refine nb_ext h1 (wrap_u64 _) fun i _ => ?_
  rw [nb_pow ha, Bool.eq_iff_iff, h2, Hangs.var h, decide_eq_true_eq, eq_comm]
theorem sup_and {K : KV} {r a b : Nat} {s : Int} (hk : K.Ok) (hu : K.Uni) (ht : K.A.tk r = true) (hs : SupIs K r s) (h : ∀ y, K.den r y = (y a && y b)) (ha : a < 64) (hb : b < 64) : s = bits BinOp.or IntKind.u64 (IntKind.u64.wrap (2 ^ a)) (IntKind.u64.wrap (2 ^ b)) := by
  obtain ⟨h1, h2⟩ := hs.bits hk hu ht
  refine nb_ext h1 (bits_u64 _ _ _) fun i _ => ?_
  rw [nb_or (wrap_u64 _) (wrap_u64 _), nb_pow ha, nb_pow hb, Bool.eq_iff_iff, h2, Hangs.and h, Bool.or_eq_true, decide_eq_true_eq, decide_eq_true_eq, eq_comm (a := i), eq_comm (a := i)]

theorem mat_keep (ss : List Int) (h : ∀ s, s ∈ ss → s = 1 ∨ s = 4 ∨ s = 5) : ss.foldl (matRow 4) [4, 0, 1, 0] = [4, 0, 1, 0] := by
  induction ss with
  | nil => rfl
  | cons s ss ih =>
    rw [List.foldl_cons]
    have : matRow 4 [4, 0, 1, 0] s = [4, 0, 1, 0] := by
      rcases h s (by simp) with rfl | rfl | rfl
      · decide +kernel
      · decide +kernel
      · decide +kernel
    rw [this]; exact ih fun s hs => h s (by simp [hs])
theorem mat_awake (ss : List Int) (h : ∀ s, s ∈ ss → s = 1 ∨ s = 4 ∨ s = 5) (h5 : (5 : Int) ∈ ss) : ss.foldl (matRow 4) [0, 0, 0, 0] = [4, 0, 1, 0] := by
  induction ss with
  | nil => simp at h5
  | cons s ss ih =>
    rw [List.foldl_cons]
    have hh := fun s hs => h s (List.mem_cons_of_mem _ hs)
    by_cases e : s = 5
    · subst e
      have : matRow 4 [0, 0, 0, 0] 5 = [4, 0, 1, 0] := by decide +kernel
      rw [this]; exact mat_keep ss hh
    · have : matRow 4 [0, 0, 0, 0] s = [0, 0, 0, 0] := by
        rcases h s (by simp) with rfl | rfl | rfl
        · decide +kernel
        · decide +kernel
        · exact absurd rfl e
      rw [this]
      exact ih hh (by rcases List.mem_cons.1 h5 with h | h; · exact absurd h.symm e
                      · exact h)

theorem ThreeW.mat {K : KV} {m r1 r2 f : Nat} {ss : List Int} (h : ThreeW K 4 m 0 2 r1 r2 f) (hu : K.Uni) (hS : SupL K K.roots ss) : ss.foldl (matRow K.vars) (List.replicate K.vars 0) = [4, 0, 1, 0] := by
  have hk := h.pl.ok
  rw [h.pl.vr]
  have one : ∀ (r : Nat) (s : Int), r ∈ K.roots → SupIs K r s → (s = 1 ∨ s = 4 ∨ s = 5) ∧ (r = f → s = 5) := by
    intro r s hr hs
    have hh := KV.mem_roots.1 hr
    obtain ⟨h2, ht⟩ := hk.wf.ht r hh
    have c := (h.tk r).1 ht
    have cf : r = f → s = 5 := by
      rintro rfl
      rw [sup_and hk hu ht hs h.df (by omega) (by omega)]; decide +kernel
    refine ⟨?_, cf⟩
    rcases c with c | c | c | c | c
    · omega
    · omega
    · subst c; left
      rw [sup_var hk hu ht hs h.d1 (by omega)]; decide +kernel
    · subst c; right; left
      rw [sup_var hk hu ht hs h.d2 (by omega)]; decide +kernel
    · right; right; exact cf c
  refine mat_awake ss (fun s hs => ?_) ?_
  · obtain ⟨i, hi⟩ := List.getElem?_of_mem hs
    have hl : i < ss.length := by
      by_cases h : i < ss.length
      · exact h
      · rw [List.getElem?_eq_none (by omega)] at hi; cases hi
    have hr : K.roots[i]? = some (K.roots[i]'(by rw [← hS.1]; exact hl)) := List.getElem?_eq_getElem _
    exact (one _ s (List.mem_of_getElem? hr) (hS.2 i _ s hr hi)).1
  · have hf : f ∈ K.roots := KV.mem_roots.2 (by rw [h.hf]; omega)
    obtain ⟨i, hi⟩ := List.getElem?_of_mem hf
    have hl : i < K.roots.length := by
      by_cases h : i < K.roots.length
      · exact h
      · rw [List.getElem?_eq_none (by omega)] at hi; cases hi
    have hs : ss[i]? = some (ss[i]'(by rw [hS.1]; exact hl)) := List.getElem?_eq_getElem _
    have := (one f _ hf (hS.2 i f _ hi hs)).2 rfl
    rw [← this]; exact List.mem_of_getElem? hs

theorem Grow.inv {M : List Int} {n : Nat} {g z : Int} (h : Grow M n g z) : ((sweepTo M n g).2 = false ∧ z = g) ∨ ((sweepTo M n g).2 = true ∧ Grow M n (sweepTo M n g).1 z) := by
  cases h with
  | done h => exact .inl ⟨h, rfl⟩
  | more h k => exact .inr ⟨h, k⟩
theorem GrR.inv {M : List Int} {n v : Nat} {d : Int} {gs : List Int} (h : GrR M n (v + 1) d gs) : (bitT d v = true ∧ GrR M n v d gs) ∨ ∃ (d0 g : Int) (gs0 : List Int), bitT d0 v = false ∧ GrR M n v d0 gs0 ∧ Grow M n (IntKind.u64.wrap (2 ^ v)) g ∧ d = bits BinOp.or IntKind.u64 d0 g ∧ gs = gs0 ++ [g] := by
  cases h with
  | skip h hb => exact .inl ⟨hb, h⟩
  | take h hb k => exact .inr ⟨_, _, _, hb, h, k, rfl, rfl⟩
theorem GrR.inv0 {M : List Int} {n : Nat} {d : Int} {gs : List Int} (h : GrR M n 0 d gs) : d = 0 ∧ gs = [] := by
  cases h; exact ⟨rfl, rfl⟩

theorem groups_awake {d : Int} {gs : List Int} (h : GrR [4, 0, 1, 0] 4 4 d gs) : gs = [5, 2, 8] := by
  have s1 : sweepTo [4, 0, 1, 0] 4 (IntKind.u64.wrap (2 ^ 0)) = (5, true) := by decide +kernel
  have s5 : sweepTo [4, 0, 1, 0] 4 5 = (5, false) := by decide +kernel
  have s2 : sweepTo [4, 0, 1, 0] 4 (IntKind.u64.wrap (2 ^ 1)) = (2, false) := by decide +kernel
  have s8 : sweepTo [4, 0, 1, 0] 4 (IntKind.u64.wrap (2 ^ 3)) = (8, false) := by decide +kernel
  have G1 : ∀ {d gs}, GrR [4, 0, 1, 0] 4 1 d gs → d = 5 ∧ gs = [5] := by
    intro d gs h
    rcases h.inv with ⟨hb, h0⟩ | ⟨d0, g, gs0, hb, h0, k, rfl, rfl⟩
    · obtain ⟨rfl, _⟩ := h0.inv0
      exact absurd hb (by decide +kernel)
    · obtain ⟨rfl, rfl⟩ := h0.inv0
      rcases k.inv with ⟨k, _⟩ | ⟨_, k⟩
      · rw [s1] at k; cases k
      · rw [s1] at k
        rcases k.inv with ⟨_, rfl⟩ | ⟨k, _⟩
        · exact ⟨by decide +kernel, rfl⟩
        · rw [s5] at k; cases k
  have G2 : ∀ {d gs}, GrR [4, 0, 1, 0] 4 2 d gs → d = 7 ∧ gs = [5, 2] := by
    intro d gs h
    rcases h.inv with ⟨hb, h0⟩ | ⟨d0, g, gs0, hb, h0, k, rfl, rfl⟩
    · obtain ⟨rfl, _⟩ := G1 h0
      exact absurd hb (by decide +kernel)
    · obtain ⟨rfl, rfl⟩ := G1 h0
      rcases k.inv with ⟨_, rfl⟩ | ⟨k, _⟩
      · exact ⟨by decide +kernel, by decide +kernel⟩
      · rw [s2] at k; cases k
  have G3 : ∀ {d gs}, GrR [4, 0, 1, 0] 4 3 d gs → d = 7 ∧ gs = [5, 2] := by
    intro d gs h
    rcases h.inv with ⟨hb, h0⟩ | ⟨d0, g, gs0, hb, h0, k, rfl, rfl⟩
    · exact G2 h0
    · obtain ⟨rfl, rfl⟩ := G2 h0
      exact absurd hb (by decide +kernel)
  rcases h.inv with ⟨hb, h0⟩ | ⟨d0, g, gs0, hb, h0, k, rfl, rfl⟩
  · obtain ⟨rfl, _⟩ := G3 h0
    exact absurd hb (by decide +kernel)
  · obtain ⟨rfl, rfl⟩ := G3 h0
    rcases k.inv with ⟨_, rfl⟩ | ⟨k, _⟩
    · decide +kernel
    · rw [s8] at k; cases k

/-- no node of 0 has a child of 1 -/
theorem ThreeW.free {K : KV} {m r1 r2 f : Nat} (h : ThreeW K 4 m 0 2 r1 r2 f) (hu : K.Uni) : K.FreeUV ((0 : Nat) : Int) ((1 : Nat) : Int) := by
  have hk := h.pl.ok
  have key : ∀ r, K.A.tk r = true → K.vr r ≠ 1 := by
    intro r ht e
    by_cases h2 : 2 ≤ r
    · obtain ⟨p, v, hp, hpt, hpv, hv, _⟩ := hk.wf.node_at h2 ht
      have e1 := KV.vr_at hp
      have hh := hk.hangs_of hu ht (.refl h2) hp
      rw [hpv] at e1 hh
      simp only [Int.toNat_natCast] at hh
      have hv1 : v = 1 := by omega
      subst hv1
      rcases (h.tk r).1 ht with c | c | c | c | c
      · omega
      · omega
      · subst c; have := (Hangs.var h.d1 1).1 hh; omega
      · subst c; have := (Hangs.var h.d2 1).1 hh; omega
      · subst c; have := (Hangs.and h.df 1).1 hh; omega
    · obtain ⟨p, hp, hpt⟩ := ArenaV.tk_iff.1 ht
      have e1 := KV.vr_at hp
      have := hk.wf.const_var (by omega) hp
      omega
  rintro r p h2 hp hpt ⟨_, hh⟩
  have hcl := hk.wf.cl r p h2 hp hpt
  rcases hh with hh | hh
  · exact key _ hcl.1 hh
  · exact key _ hcl.2 hh

theorem Plain.order {K : KV} {n m l : Nat} (h : Plain K n m) (hl : l < n) : K.order.getD l 0 = l := by
  have h1 := h.ok.ord.pm.oo l (by rw [h.vr]; exact hl)
  have h2 := h.lv (K.order.getD l 0) (by rw [← h.vr]; exact h1.1)
  omega

set_option maxRecDepth 100000 in
set_option maxHeartbeats 1600000 in
/-- The example answers true. -/
theorem awake14_spec (w : World) : Calls Tryz.prog 38 #[] w fun e w' => e = .returned (.bool true) ∧ Upd [] w w' := by
  have HROW : Hid (∀ (w : World) (vs : Array Value) (n : Nat), vs.size = n → n ≤ 100 → (w.alloc (.cells vs 65 (0, 0))).ownsRow 0 65 1 (.slice (some ⟨w.heap.size, 0, none⟩) n n) n vs.toList) := fun w vs n h1 h2 =>
    World.ownsRow_lit (base := 0) (e := 65) (size := 1) w vs n (Nat.zero_le _) (by unfold maxLen; omega) (by omega)
  go_enter Tryz.func38, Tryz.ntmps38
  go_wp2_with fail
  refine (knew_spec 4 20 w (by omega) (by omega) (by omega) (by omega)).mono ?_
  rintro e w1 ⟨b, T, q, rfl, hk, hu, hs⟩
  have H1 := Lib.hid (And.intro hk (And.intro hu hs))
  clear hk hu hs
  go_wp2_with fail
  refine (var_live b 0 _ T q w1 H1.out.1).mono ?_
  rintro e w2 hE
  obtain ⟨r1, c1, K1, T1, q1, rfl, M1, hk, hu, hs⟩ := hE.ex
  have H2 := Lib.hid (And.intro M1 (And.intro hk (And.intro (H1.out.2.1.then hu fun x hx => (H1.out.2.2 x hx)) (sub_trans H1.out.2.2 hs H1.out.2.1.size))))
  clear hE M1 hk hu hs
  go_wp2_with fail
  refine (var_live b 2 _ T1 q1 w2 H2.out.2.1).mono ?_
  rintro e w3 hE
  obtain ⟨r2, c2, K2, T2, q2, rfl, M2, hk, hu, hs⟩ := hE.ex
  obtain ⟨rfl, rfl, hT⟩ := two_vars2 (a := 0) (b := 2) (by omega) (by omega) (by omega) (by omega) H2.out.2.1.ok (H2.out.2.1.ti.uni H2.out.2.1.ok.wf) hk.ok (hk.ti.uni hk.ok.wf) H2.out.1 M2
  have H3 := Lib.hid (And.intro hT (And.intro hk (And.intro (H2.out.2.2.1.then hu fun x hx => (H2.out.2.2.2 x hx)) (sub_trans H2.out.2.2.2 hs H2.out.2.2.1.size))))
  clear hE M2 hk hu hs hT
  go_wp2_with fail
  refine (and_live b r1 r2 K2 T2 q2 w3 H3.out.2.1 ((H3.out.1.tk r1).2 (by simp)) ((H3.out.1.tk r2).2 (by simp))).mono ?_
  rintro e w4 hE
  obtain ⟨f, c3, K3, T3, q3, rfl, O3, hk, hu, hs⟩ := hE.ex
  obtain ⟨rfl, hN⟩ := H3.out.1.and (by omega) hk.ok (hk.ti.uni hk.ok.wf) O3
  have H4 := Lib.hid (And.intro hN (And.intro hk (And.intro (H3.out.2.2.1.then hu fun x hx => (H3.out.2.2.2 x hx)) (sub_trans H3.out.2.2.2 hs H3.out.2.2.1.size))))
  have hf2 := hN.f2
  have hgt : (1 : Int) < (f : Int) := by omega
  have hgt2 : ¬ ((f : Int) ≤ 1) := by omega
  clear hE O3 hk hu hs hN
  go_wp2_with fail
  refine (free_spec b 0 K3 T3 q3 w4 H4.out.2.1 (by rw [H4.out.1.pl.vr]; omega) 0 1 (H4.out.1.pl.order (by omega)) (H4.out.1.pl.order (by omega))).mono ?_
  rintro e w5 hE
  obtain ⟨fr, rfl, hfr, hu⟩ := hE.ex
  have hfr1 : fr = true := hfr.2 (H4.out.1.free (H4.out.2.1.ti.uni H4.out.2.1.ok.wf))
  clear hfr
  have H5 := Lib.hid (And.intro (H4.out.2.1.upd hu (by simp)) (H4.out.2.2.1.then hu (by simp)))
  clear hE hu
  go_wp2_with fail
  refine (matrix_spec b K3 T3 q3 w5 H5.out.1).mono ?_
  rintro e w6 ⟨g, ss, rfl, hS, hM⟩
  rw [H4.out.1.mat (H4.out.2.1.ti.uni H4.out.2.1.ok.wf) hS, H4.out.1.pl.vr] at hM
  rw [H4.out.1.pl.vr]
  have H6 := Lib.hid hM
  clear hS hM
  go_wp2_with fail
  refine (sets_spec _ _ _ 0 [4, 0, 1, 0] [4, 0, 1, 0] _ (H6.out.row.alloc _) (HROW.out w6 _ _ rfl (by decide)) (by simp) (by simp)).mono ?_
  rintro e w7 ⟨rfl, hu⟩
  have H7 := Lib.hid (And.intro (H5.out.1.upd ((H6.out.up.alloc _).trans hu) (by simp)) (H5.out.2.then ((H6.out.up.alloc _).trans hu) (by simp)))
  clear hu
  simp only [decide_true]
  go_wp2_with fail
  refine (groups_spec b K3 T3 q3 w7 H7.out.1).mono ?_
  rintro e w8 hE
  obtain ⟨lv, ss, d, gs, rfl, hS, hG, hrow, hu⟩ := hE.ex
  rw [H4.out.1.mat (H4.out.2.1.ti.uni H4.out.2.1.ok.wf) hS, H4.out.1.pl.vr] at hG
  obtain rfl := groups_awake hG
  have H8 := Lib.hid (And.intro hrow (H7.out.2.then hu (by simp)))
  clear hE hS hG hrow hu
  go_wp2_with fail
  refine (sets_spec _ _ _ 0 [5, 2, 8] [5, 2, 8] _ (H8.out.1.alloc _) (HROW.out w8 _ _ rfl (by decide)) (by simp) (by simp)).mono ?_
  rintro e w9 ⟨rfl, hu⟩
  have H9 := Lib.hid ((H8.out.2.alloc _).then hu (by simp))
  clear hu
  simp only [decide_true]
  go_wp2_with fail
  go_ret
  exact ⟨rfl, H9.out⟩

end Go.Proofs.YtnenhecnkidnpaaGreat


/- Truth tables in memory: Same, Bit, Words. -/
namespace Go.Proofs.YtnenhecnkidnpaaGreat
open Go.RowKit Go.Maps Go.ChangeMaps Go.WideShapes

/-- a table as a value -/
def tabV (t : TV) (c : Value) : Value := .agg #[.int .i64 t.n, c]

/-- a table's words in memory, apart from the blocks of Z -/
structure TIn (w : World) (Z : List Nat) (c : Value) (t : TV) : Prop where
  ok : t.Ok
  row : w.ownsRow 0 65 1 c t.ws.length (flatU t.ws)
  fr : ∀ k, c.ownBlock = some k → k ∉ Z

theorem TIn.keep {w w' : World} {Z S : List Nat} {c : Value} {t : TV} (h : TIn w Z c t) (u : Upd S w w') (hS : ∀ k, k ∈ S → k ∈ Z ∨ w.heap.size ≤ k) : TIn w' Z c t :=
  ⟨h.ok, row_keep h.row fun k hk => u.block k (h.row.lt k hk).2 fun hm => by
    rcases hS k hm with h1 | h1
    · exact h.fr k hk h1
    · have := (h.row.lt k hk).2; omega, h.fr⟩
theorem TIn.keep0 {w w' : World} {Z : List Nat} {c : Value} {t : TV} (h : TIn w Z c t) (u : Upd [] w w') : TIn w' Z c t := h.keep u (by simp)
theorem TIn.apart {w : World} {Z Z' : List Nat} {c : Value} {t : TV} (h : TIn w Z c t) (hs : Sub Z w Z') : TIn w Z' c t :=
  ⟨h.ok, h.row, fun k hk hm => by
    rcases hs k hm with h1 | h1
    · exact h.fr k hk h1
    · have := (h.row.lt k hk).2; omega⟩

theorem TV.Ok.len_le {t : TV} (h : t.Ok) : t.ws.length ≤ 1024 := by
  have e := h.len
  have h1 := h.n16
  have h2 : wordsN t.n ≤ 1024 := by
    unfold wordsN; split
    · omega
    · have : (2 : Nat) ^ (t.n - 6) ≤ 2 ^ 10 := Nat.pow_le_pow_right (by omega) (by omega)
      omega
  omega

/-- a table's value, boxed -/
theorem boxT (w : World) (x y : Value) : (w.alloc (.cells #[x, y] 72 (0, 0))).cell? ⟨w.heap.size, 0, none⟩ = some x ∧ (w.alloc (.cells #[x, y] 72 (0, 0))).cell? ⟨w.heap.size, 1, none⟩ = some y := by
  have hb := heap_alloc_new w (.cells #[x, y] 72 (0, 0))
  exact ⟨cell_at hb rfl, cell_at hb rfl⟩

set_option maxRecDepth 100000 in
set_option maxHeartbeats 800000 in
theorem same_spec (Z : List Nat) (c d : Value) (t u : TV) (w : World) (h1 : TIn w Z c t) (h2 : TIn w Z d u) :
    Calls Tryz.prog 92 #[tabV t c, tabV u d] w fun e w' => e = .returned (.bool (decide (t = u))) ∧ Upd [] w w' := by
  unfold tabV
  obtain ⟨tn, tw⟩ := t
  obtain ⟨un, uw⟩ := u
  have hl1 : tw.length ≤ 1024 := h1.ok.len_le
  have hl2 : uw.length ≤ 1024 := h2.ok.len_le
  obtain ⟨fa, ca, hca, _⟩ := row_nil_len h1.row
  obtain ⟨fb, cb, hcb, _⟩ := row_nil_len h2.row
  subst hca hcb
  have r1 : w.ownsRow 0 65 1 (.slice fa tw.length ca) tw.length (flatU tw) := h1.row
  have r2 : w.ownsRow 0 65 1 (.slice fb uw.length cb) uw.length (flatU uw) := h2.row
  clear h1 h2
  show Calls _ _ #[.agg #[.int .i64 tn, .slice fa tw.length ca], .agg #[.int .i64 un, .slice fb uw.length cb]] _ _
  generalize e1 : tw.length = n1 at r1 hl1
  generalize e2 : uw.length = n2 at r2 hl2
  have HT := Lib.hid (And.intro r1 r2)
  have HL := Lib.hid (And.intro e1 e2)
  clear r1 r2 e1 e2
  by_cases hn : tn = un
  · subst hn
    have hE : (decide ((⟨tn, tw⟩ : TV) = ⟨tn, uw⟩)) = decide (tw = uw) := by congr 1; simp
    rw [hE]
    clear hE
    have HU2 := Lib.hid (((Upd.refl [] w).alloc (.cells #[.int .i64 tn, .slice fa n1 ca] 72 (0, 0))).alloc (.cells #[.int .i64 tn, .slice fb n2 cb] 72 (0, 0)))
    obtain ⟨a0, a1⟩ := boxT w (.int .i64 tn) (.slice fa n1 ca)
    obtain ⟨b0, b1⟩ := boxT (w.alloc (.cells #[.int .i64 tn, .slice fa n1 ca] 72 (0, 0))) (.int .i64 tn) (.slice fb n2 cb)
    rw [World.size_alloc] at b0 b1
    have q0 : ((w.alloc (.cells #[.int .i64 tn, .slice fa n1 ca] 72 (0, 0))).alloc (.cells #[.int .i64 tn, .slice fb n2 cb] 72 (0, 0))).cell? ⟨w.heap.size, 0, none⟩ = some (.int .i64 tn) := (((Upd.refl [] _).alloc _).cell (World.block_lt_of_cell? _ _ a0) (by simp)).trans a0
    have q1 : ((w.alloc (.cells #[.int .i64 tn, .slice fa n1 ca] 72 (0, 0))).alloc (.cells #[.int .i64 tn, .slice fb n2 cb] 72 (0, 0))).cell? ⟨w.heap.size, 1, none⟩ = some (.slice fa n1 ca) := (((Upd.refl [] _).alloc _).cell (World.block_lt_of_cell? _ _ a1) (by simp)).trans a1
    clear a0 a1
    by_cases hl : n1 = n2
    · subst hl
      go_enter Tryz.func92, Tryz.ntmps92
      go_wp2_with fail
      go_loopg [5] n1 (fun g s5 wr => ∃ i : Nat, n1 - i = g ∧ i ≤ n1 ∧ s5 = .int .i64 i ∧ tw.take i = uw.take i ∧ Upd [] ((w.alloc (.cells #[.int .i64 tn, .slice fa n1 ca] 72 (0, 0))).alloc (.cells #[.int .i64 tn, .slice fb n1 cb] 72 (0, 0))) wr)
      case atStart => exact ⟨0, by omega, by omega, rfl, rfl, Upd.refl _ _⟩
      case round =>
        obtain ⟨i, rfl, hi, rfl, ht, hU⟩ := hrel
        have p1 := (hU.cell (World.block_lt_of_cell? _ _ q1) (by simp)).trans q1
        have p2 := (hU.cell (World.block_lt_of_cell? _ _ b1) (by simp)).trans b1
        by_cases hlt : i < n1
        · obtain ⟨x, hx⟩ : ∃ x, tw[i]? = some x := ⟨_, List.getElem?_eq_getElem (by rw [HL.out.1]; exact hlt)⟩
          obtain ⟨y, hy⟩ : ∃ y, uw[i]? = some y := ⟨_, List.getElem?_eq_getElem (by rw [HL.out.2]; exact hlt)⟩
          obtain ⟨ga, rfl⟩ := row_some HT.out.1 (by omega)
          obtain ⟨gb, rfl⟩ := row_some HT.out.2 (by omega)
          have r1 := row_keep HT.out.1 fun k hk => (HU2.out.trans hU).block k (HT.out.1.lt k hk).2 (by simp)
          have r2 := row_keep HT.out.2 fun k hk => (HU2.out.trans hU).block k (HT.out.2.lt k hk).2 (by simp)
          have c1 := row_cell r1 (j := i) (u := .int .u64 x) (by simp [flatU, hx])
          have c2 := row_cell r2 (j := i) (u := .int .u64 y) (by simp [flatU, hy])
          have hil : (i : Int) < (n1 : Int) := by omega
          clear q0 q1 b0 b1 r1 r2
          by_cases hxy : x = y
          · have hb1 : (x == y) = true := by simpa using hxy
            have HE : Hid (tw.take (i + 1) = uw.take (i + 1) ∧ Upd [] _ wr) := ⟨by rw [List.take_add_one, List.take_add_one, ht, hx, hy, hxy], hU⟩
            clear ht hU hx hy
            go_wp2_with fail
            go_region
            go_wp2_with fail
            go_roundg (n1 - (i + 1))
            case measure => omega
            case rel => exact ⟨i + 1, rfl, by omega, by simp, HE.out.1, HE.out.2.drew⟩
          · have hb1 : (x == y) = false := by simpa using hxy
            have HE : Hid (¬ (tw = uw) ∧ Upd [] _ wr) := ⟨fun e => hxy (by rw [e, hy] at hx; exact (Option.some.inj hx).symm), HU2.out.trans hU⟩
            clear ht hU hx hy
            go_wp2_with fail
            go_region
            go_wp2_with fail
            go_ret
            exact ⟨by rw [decide_eq_false HE.out.1]; rfl, HE.out.2.drew⟩
        · obtain rfl : i = n1 := by omega
          have hil : ¬ ((i : Int) < (i : Int)) := by omega
          have HE : Hid ((tw = uw) ∧ Upd [] w wr) := ⟨by rw [List.take_of_length_le (by rw [HL.out.1]; omega), List.take_of_length_le (by rw [HL.out.2]; omega)] at ht; exact ht, HU2.out.trans hU⟩
          clear ht hU q0 q1 b0 b1
          go_wp2_with fail
          go_ret
          exact ⟨by rw [decide_eq_true HE.out.1]; rfl, HE.out.2⟩
    · have hl3 : ((n1 : Int) == (n2 : Int)) = false := by rw [beq_eq_false_iff_ne]; omega
      have hl4 : ¬ ((n1 : Int) = (n2 : Int)) := by omega
      have HE : Hid (¬ (tw = uw)) := fun e => hl (by have := HL.out; rw [e] at this; omega)
      go_enter Tryz.func92, Tryz.ntmps92
      go_wp2_with fail
      go_ret
      exact ⟨by rw [decide_eq_false HE.out]; rfl, HU2.out⟩
  · have hn1 : ((tn : Int) == (un : Int)) = false := by rw [beq_eq_false_iff_ne]; omega
    have hn4 : ¬ ((tn : Int) = (un : Int)) := by omega
    have hE : decide ((⟨tn, tw⟩ : TV) = ⟨un, uw⟩) = false := decide_eq_false fun e => hn (by injection e)
    rw [hE]
    clear hE
    have HU2 := Lib.hid (((Upd.refl [] w).alloc (.cells #[.int .i64 tn, .slice fa n1 ca] 72 (0, 0))).alloc (.cells #[.int .i64 un, .slice fb n2 cb] 72 (0, 0)))
    obtain ⟨a0, a1⟩ := boxT w (.int .i64 tn) (.slice fa n1 ca)
    obtain ⟨b0, b1⟩ := boxT (w.alloc (.cells #[.int .i64 tn, .slice fa n1 ca] 72 (0, 0))) (.int .i64 un) (.slice fb n2 cb)
    rw [World.size_alloc] at b0 b1
    have q0 : ((w.alloc (.cells #[.int .i64 tn, .slice fa n1 ca] 72 (0, 0))).alloc (.cells #[.int .i64 un, .slice fb n2 cb] 72 (0, 0))).cell? ⟨w.heap.size, 0, none⟩ = some (.int .i64 tn) := (((Upd.refl [] _).alloc _).cell (World.block_lt_of_cell? _ _ a0) (by simp)).trans a0
    clear a0 a1
    go_enter Tryz.func92, Tryz.ntmps92
    go_wp2_with fail
    go_ret
    exact ⟨rfl, HU2.out⟩

/-- a bit, as the code reckons it -/
theorem bit_mod {x : Int} (hx : U64 x) (v : Nat) : (x / 2 ^ v % 2 == 1) = nb x v := by
  obtain ⟨n, rfl⟩ : ∃ n : Nat, x = (n : Int) := ⟨x.toNat, by unfold U64 at hx; omega⟩
  have e : ((n : Int) / 2 ^ v % 2) = ((n / 2 ^ v % 2 : Nat) : Int) := by push_cast; rfl
  rw [e, nb_cast, Nat.testBit_eq_decide_div_mod_eq, Bool.eq_iff_iff, beq_iff_eq, decide_eq_true_eq]
  omega

theorem bit_tmod {x : Int} (hx : U64 x) (v : Nat) : ((x / 2 ^ v).tmod 2 == 1) = nb x v := by
  rw [← bit_mod hx, Int.tmod_eq_emod_of_nonneg (Int.ediv_nonneg hx.1 (Int.le_of_lt (Int.pow_pos (by omega))))]

set_option maxRecDepth 100000 in
set_option maxHeartbeats 800000 in
theorem tbit_spec (Z : List Nat) (c : Value) (t : TV) (x : Nat) (w : World) (h : TIn w Z c t) (hx : x < 2 ^ t.n) :
    Calls Tryz.prog 144 #[tabV t c, .int .i64 x] w fun e w' => e = .returned (.bool (t.bit x)) ∧ Upd [] w w' := by
  unfold tabV
  have hd := div64_lt hx
  obtain ⟨w1, w2, w3⟩ := h.ok.word hd
  have hlen := h.ok.len
  have hll := h.ok.len_le
  obtain ⟨fa, ca, hca, _⟩ := row_nil_len h.row
  subst hca
  obtain ⟨ga, rfl⟩ := row_some h.row (by have := wordsN_pos t.n; omega)
  have HU := Lib.hid ((Upd.refl [] w).alloc (.cells #[.int .i64 t.n, .slice (some ⟨ga, 0, none⟩) t.ws.length ca] 72 (0, 0)))
  obtain ⟨a0, a1⟩ := boxT w (.int .i64 t.n) (.slice (some ⟨ga, 0, none⟩) t.ws.length ca)
  have r1 := row_keep h.row fun k hk => HU.out.block k (h.row.lt k hk).2 (by simp)
  have c1 := row_cell r1 (j := x / 64) (u := .int .u64 (t.ws.getD (x / 64) 0)) (by rw [flatU, List.getElem?_map, w3]; rfl)
  have HB : Hid (((t.ws.getD (x / 64) 0 / 2 ^ (x % 64)).tmod 2 == 1) = t.bit x) := bit_tmod w1 (x % 64)
  generalize t.ws.getD (x / 64) 0 = W at c1 HB
  have hx16 : x < 65536 := Nat.lt_of_lt_of_le hx (by have : (2 : Nat) ^ t.n ≤ 2 ^ 16 := Nat.pow_le_pow_right (by omega) h.ok.n16; omega)
  have hq2 : (x : Int).tdiv 64 = ((x / 64 : Nat) : Int) := by rw [Int.tdiv_eq_ediv_of_nonneg (by omega)]; omega
  have hr2 : (x : Int).tmod 64 = ((x % 64 : Nat) : Int) := by rw [Int.tmod_eq_emod_of_nonneg (by omega)]; omega
  have hil : ((x / 64 : Nat) : Int) < (t.ws.length : Int) := by omega
  have hrl : ((x % 64 : Nat) : Int) < 64 := by omega
  have hrl2 : x % 64 < 64 := by omega
  generalize x / 64 = xq at c1 hq2 hil
  generalize x % 64 = xr at HB hr2 hrl hrl2
  clear h r1 w1 w2 w3 hd hx hlen
  generalize t.ws.length = tl at *
  go_enter Tryz.func144, Tryz.ntmps144
  go_wp2_with fail
  go_ret
  exact ⟨by rw [← HB.out]; rfl, HU.out⟩

set_option maxRecDepth 100000 in
set_option maxHeartbeats 800000 in
theorem words_spec (n : Nat) (w : World) (hn : n ≤ 16) : Calls Tryz.prog 170 #[.int .i64 n] w fun e w' => e = .returned (.int .i64 (wordsN n : Nat)) ∧ w' = w := by
  by_cases h6 : n ≤ 6
  · have hd : decide ((n : Int) ≤ 6) = true := by simp; omega
    have HW : Hid (wordsN n = 1) := by
      show wordsN n = 1
      unfold wordsN; rw [if_pos h6]
    go_enter Tryz.func170, Tryz.ntmps170
    go_wp2_with fail
    go_ret
    exact ⟨by rw [HW.out]; rfl, rfl⟩
  · have hd : decide ((n : Int) ≤ 6) = false := by simp; omega
    obtain ⟨m, rfl⟩ : ∃ m, n = m + 6 := ⟨n - 6, by omega⟩
    have hm : m ≤ 10 := by omega
    have hsub : IntKind.i64.wrap (((m + 6 : Nat) : Int) - 6) = (m : Int) := by rw [IntWalk.i64_in _ (by omega)]; omega
    have hm64 : (m : Int) < 64 := by omega
    have HW : Hid (wrap64 (2 ^ m) = (wordsN (m + 6) : Nat)) := by
      show _ = _
      have h1 : (2 : Nat) ^ m ≤ 2 ^ 10 := Nat.pow_le_pow_right (by omega) hm
      have h2 : ((2 : Int) ^ m) = ((2 ^ m : Nat) : Int) := by push_cast; rfl
      have h3 : wordsN (m + 6) = 2 ^ m := by
        unfold wordsN
        split
        · obtain rfl : m = 0 := by omega
          rfl
        · rw [Nat.add_sub_cancel]
      rw [h3, h2]
      generalize (2 : Nat) ^ m = z at h1
      unfold wrap64; omega
    go_enter Tryz.func170, Tryz.ntmps170
    go_wp2_with fail
    go_ret
    exact ⟨by rw [← HW.out]; rfl, rfl⟩
end Go.Proofs.YtnenhecnkidnpaaGreat

