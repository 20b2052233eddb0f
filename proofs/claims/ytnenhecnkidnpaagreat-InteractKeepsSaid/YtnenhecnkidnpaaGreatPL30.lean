/- The interaction matrix and its groups, as sets: plain. -/
import Derived.Test.YtnenhecnkidnpaaGreatPL13
import Derived.Test.YtnenhecnkidnpaaGreatPL21
import Derived.Test.YtnenhecnkidnpaaGreatPL14
import Derived.Test.YtnenhecnkidnpaaGreatPL22
import Derived.BigQuiet
namespace Go.Proofs.YtnenhecnkidnpaaGreat

/-- bit i of row v -/
def mbit (M : List Int) (v i : Nat) : Bool := nb (M.getD v 0) i
def AllU (M : List Int) : Prop := ∀ x, x ∈ M → U64 x

theorem AllU.getD {M : List Int} (h : AllU M) (v : Nat) : U64 (M.getD v 0) := by
  rw [List.getD_eq_getElem?_getD]
  cases e : M[v]? with
  | none => exact u64_zero
  | some x => exact h x (List.mem_of_getElem? e)
theorem AllU.set {M : List Int} (h : AllU M) (v : Nat) {x : Int} (hx : U64 x) : AllU (M.set v x) := fun y hy => by
  rcases List.mem_or_eq_of_mem_set hy with h1 | rfl
  · exact h y h1
  · exact hx
theorem AllU.zeros (n : Nat) : AllU (List.replicate n 0) := fun x hx => by rw [(List.mem_replicate.1 hx).2]; exact u64_zero
theorem mbit_set {M : List Int} {v : Nat} (hv : v < M.length) (x : Int) (u i : Nat) : mbit (M.set v x) u i = if u = v then nb x i else mbit M u i := by
  unfold mbit
  rw [List.getD_eq_getElem?_getD, List.getElem?_set]
  by_cases e : v = u
  · subst e; simp [hv]
  · rw [if_neg e, if_neg (fun h => e h.symm), List.getD_eq_getElem?_getD]
theorem matUpd_bits {s : Int} (hs : U64 s) {M : List Int} (hM : AllU M) {v : Nat} (hv : v < M.length) (h64 : v < 64) : AllU (matUpd s M v) ∧ ∀ u i, i < 64 → mbit (matUpd s M v) u i = (mbit M u i || (decide (u = v) && (nb s u && (nb s i && !decide (u = i))))) := by
  unfold matUpd
  rw [bitT_nb hs]
  split
  · rename_i hb
    have hu : U64 (orNotT (M.getD v 0) s v) := wrap_u64 _
    refine ⟨hM.set v hu, fun u i hi => ?_⟩
    rw [mbit_set hv]
    split
    · rename_i e
      subst e
      unfold orNotT
      rw [nb_or (hM.getD _) (bits_u64 _ _ _), nb_andNot hs (wrap_u64 _) hi, nb_pow h64]
      simp [mbit, hb]
    · rename_i e
      simp [e]
  · rename_i hb
    refine ⟨hM, fun u i hi => ?_⟩
    by_cases e : u = v
    · subst e; simp [hb]
    · simp [e]

theorem matRow_bits {s : Int} (hs : U64 s) {M : List Int} (hM : AllU M) : ∀ (n : Nat), n ≤ M.length → n ≤ 64 → AllU (matRow n M s) ∧ ∀ u i, i < 64 → mbit (matRow n M s) u i = (mbit M u i || (decide (u < n) && (nb s u && (nb s i && !decide (u = i)))))
  | 0, _, _ => ⟨hM, fun u i _ => by simp [matRow]⟩
  | n + 1, hl, h64 => by
    obtain ⟨h1, h2⟩ := matRow_bits hs hM n (by omega) (by omega)
    have e : matRow (n + 1) M s = matUpd s (matRow n M s) n := by unfold matRow; rw [List.range_succ, List.foldl_append]; rfl
    obtain ⟨k1, k2⟩ := matUpd_bits hs h1 (v := n) (by rw [matRow_len]; omega) (by omega)
    rw [e]
    refine ⟨k1, fun u i hi => ?_⟩
    rw [k2 u i hi, h2 u i hi, Bool.or_assoc, ← Bool.and_or_distrib_right]
    congr 2
    rw [Bool.eq_iff_iff]
    simp; omega

theorem mat_bits {n : Nat} (hn : n ≤ 64) : ∀ (ss : List Int) {M : List Int}, AllU M → M.length = n → AllU ss → AllU (ss.foldl (matRow n) M) ∧ (ss.foldl (matRow n) M).length = n ∧ ∀ u i, i < 64 → (mbit (ss.foldl (matRow n) M) u i = true ↔ mbit M u i = true ∨ (u < n ∧ u ≠ i ∧ ∃ s, s ∈ ss ∧ nb s u = true ∧ nb s i = true))
  | [], M, hM, hl, _ => ⟨hM, hl, fun u i _ => by simp⟩
  | s :: ss, M, hM, hl, hs => by
    obtain ⟨h1, h2⟩ := matRow_bits (hs s (by simp)) hM n (by omega) hn
    obtain ⟨k1, k2, k3⟩ := mat_bits hn ss h1 (by rw [matRow_len, hl]) (fun x hx => hs x (by simp [hx]))
    refine ⟨k1, k2, fun u i hi => ?_⟩
    rw [List.foldl_cons, k3 u i hi, h2 u i hi]
    simp only [Bool.or_eq_true, Bool.and_eq_true, decide_eq_true_eq, Bool.not_eq_true', decide_eq_false_iff_not, List.mem_cons]
    constructor
    · rintro ((h | ⟨h, a, b, c⟩) | ⟨h, hne, x, hx, a, b⟩)
      · exact .inl h
      · exact .inr ⟨h, c, s, .inl rfl, a, b⟩
      · exact .inr ⟨h, hne, x, .inr hx, a, b⟩
    · rintro (h | ⟨h, hne, x, rfl | hx, a, b⟩)
      · exact .inl (.inl h)
      · exact .inl (.inr ⟨h, a, b, hne⟩)
      · exact .inr ⟨h, hne, x, hx, a, b⟩

theorem list_u64_ext {A B : List Int} (ha : AllU A) (hb : AllU B) (hl : A.length = B.length) (h : ∀ u i, i < 64 → mbit A u i = mbit B u i) : A = B := by
  apply List.ext_getElem hl
  intro u h1 h2
  have e1 : A.getD u 0 = A[u] := by rw [List.getD_eq_getElem?_getD, List.getElem?_eq_getElem h1]; rfl
  have e2 : B.getD u 0 = B[u] := by rw [List.getD_eq_getElem?_getD, List.getElem?_eq_getElem h2]; rfl
  exact nb_ext (ha _ (List.getElem_mem h1)) (hb _ (List.getElem_mem h2)) fun i hi => by
    have := h u i hi
    unfold mbit at this
    rwa [e1, e2] at this

/-- the matrix of a list of supports: only the set of them counts -/
theorem mat_same {n : Nat} (hn : n ≤ 64) {ss st : List Int} (h1 : AllU ss) (h2 : AllU st) (h : ∀ s, s ∈ ss ↔ s ∈ st) : ss.foldl (matRow n) (List.replicate n 0) = st.foldl (matRow n) (List.replicate n 0) := by
  obtain ⟨a1, a2, a3⟩ := mat_bits hn ss (AllU.zeros n) (by simp) h1
  obtain ⟨b1, b2, b3⟩ := mat_bits hn st (AllU.zeros n) (by simp) h2
  refine list_u64_ext a1 b1 (by rw [a2, b2]) fun u i hi => ?_
  rw [Bool.eq_iff_iff, a3 u i hi, b3 u i hi]
  simp only [h]

/-! ### groups -/

def ClosedB (M : List Int) (n : Nat) (P : Nat → Prop) : Prop := ∀ v, v < n → P v → ∀ i, mbit M v i = true → P i

/-- what chains reach -/
structure IsGrp (M : List Int) (n : Nat) (g z : Int) : Prop where
  u : U64 z
  up : ∀ i, nb g i = true → nb z i = true
  cl : ClosedB M n fun i => nb z i = true
  le : ∀ P : Nat → Prop, ClosedB M n P → (∀ i, nb g i = true → P i) → ∀ i, nb z i = true → P i

theorem IsGrp.eq {M : List Int} {n : Nat} {g z y : Int} (h : IsGrp M n g z) (k : IsGrp M n g y) : z = y :=
  nb_ext h.u k.u fun i _ => by
    rw [Bool.eq_iff_iff]
    exact ⟨fun hi => h.le _ k.cl k.up i hi, fun hi => k.le _ h.cl h.up i hi⟩

/-- a set on the way to its group -/
structure OnWay (M : List Int) (n : Nat) (g z : Int) : Prop where
  u : U64 z
  up : ∀ i, nb g i = true → nb z i = true
  le : ∀ P : Nat → Prop, ClosedB M n P → (∀ i, nb g i = true → P i) → ∀ i, nb z i = true → P i
theorem OnWay.refl {M : List Int} {n : Nat} {g : Int} (h : U64 g) : OnWay M n g g := ⟨h, fun _ hi => hi, fun _ _ hP => hP⟩
theorem OnWay.trans {M : List Int} {n : Nat} {g z y : Int} (h : OnWay M n g z) (k : OnWay M n z y) : OnWay M n g y :=
  ⟨k.u, fun i hi => k.up i (h.up i hi), fun P hc hP => k.le P hc (h.le P hc hP)⟩
theorem OnWay.or {M : List Int} {n v : Nat} {g z : Int} (hM : AllU M) (h : OnWay M n g z) (hv : v < n) (hb : bitT g v = true ∨ bitT z v = true) (hg : U64 g) : OnWay M n g (bits BinOp.or IntKind.u64 z (M.getD v 0)) := by
  have hb' : nb z v = true := by
    rcases hb with h1 | h1
    · rw [bitT_nb hg] at h1; exact h.up v h1
    · rw [bitT_nb h.u] at h1; exact h1
  refine ⟨wrap_u64 _, fun i hi => ?_, fun P hc hP i hi => ?_⟩
  · rw [nb_or h.u (hM.getD v), h.up i hi]; rfl
  · rw [nb_or h.u (hM.getD v), Bool.or_eq_true] at hi
    rcases hi with hi | hi
    · exact h.le P hc hP i hi
    · exact hc v hv (h.le P hc hP v hb') i hi

theorem sweep_way {M : List Int} (hM : AllU M) {N : Nat} {g : Int} (hg : U64 g) : ∀ (n : Nat), n ≤ N → OnWay M N g (sweepTo M n g).1
  | 0, _ => OnWay.refl hg
  | n + 1, h => by
    have ih := sweep_way hM (N := N) hg n (by omega)
    rw [sweep_succ]
    unfold growStep
    split
    · rename_i hc
      simp only [Bool.and_eq_true] at hc
      exact ih.or hM (v := n) (by omega) (.inr hc.1) hg
    · exact ih
theorem sweep_still {M : List Int} (hM : AllU M) {g : Int} (hg : U64 g) : ∀ (n : Nat), (sweepTo M n g).2 = false → (sweepTo M n g).1 = g ∧ ∀ v, v < n → nb g v = true → ∀ i, mbit M v i = true → nb g i = true
  | 0, _ => ⟨rfl, fun v hv => by omega⟩
  | n + 1, h => by
    rw [sweep_succ] at h ⊢
    unfold growStep at h ⊢
    split at h
    · cases h
    · rename_i hc
      obtain ⟨h1, h2⟩ := sweep_still hM hg n h
      rw [if_neg hc]
      refine ⟨h1, fun v hv hb i hi => ?_⟩
      by_cases e : v < n
      · exact h2 v e hb i hi
      · obtain rfl : v = n := by omega
        rw [h1, bitT_nb hg, hb] at hc
        have hz : bits BinOp.andNot IntKind.u64 (M.getD v 0) g = 0 := by simpa using hc
        have hi64 : i < 64 := by
          rcases Nat.lt_or_ge i 64 with h9 | h9
          · exact h9
          · unfold mbit at hi; rw [nb_high (hM.getD v) h9] at hi; cases hi
        have e2 := nb_andNot (hM.getD v) hg hi64
        rw [hz, nb_zero] at e2
        unfold mbit at hi
        rw [hi] at e2
        simpa using e2.symm

theorem Grow.grp {M : List Int} (hM : AllU M) {n : Nat} {g z : Int} (h : Grow M n g z) : U64 g → IsGrp M n g z := by
  induction h with
  | done h =>
    intro hg
    obtain ⟨h1, h2⟩ := sweep_still hM hg n h
    exact ⟨hg, fun _ hi => hi, h2, fun _ _ hP => hP⟩
  | more h k ih =>
    intro hg
    have w := sweep_way hM hg n (Nat.le_refl _)
    have k := ih w.u
    exact ⟨k.u, fun i hi => k.up i (w.up i hi), k.cl, fun P hc hP => k.le P hc (w.le P hc hP)⟩

/-- the groups of the first variables, as sets -/
inductive GrS (M : List Int) (n : Nat) : Nat → Int → List Int → Prop
  | zero : GrS M n 0 0 []
  | skip {v : Nat} {d : Int} {gs : List Int} (h : GrS M n v d gs) (hb : bitT d v = true) : GrS M n (v + 1) d gs
  | take {v : Nat} {d g : Int} {gs : List Int} (h : GrS M n v d gs) (hb : bitT d v = false) (k : IsGrp M n (IntKind.u64.wrap (2 ^ v)) g) : GrS M n (v + 1) (bits BinOp.or IntKind.u64 d g) (gs ++ [g])

theorem GrR.grs {M : List Int} (hM : AllU M) {n v : Nat} {d : Int} {gs : List Int} (h : GrR M n v d gs) : GrS M n v d gs := by
  induction h with
  | zero => exact .zero
  | skip _ hb ih => exact .skip ih hb
  | take _ hb k ih => exact .take ih hb (k.grp hM (wrap_u64 _))

theorem GrS.eq {M : List Int} {n v : Nat} {d : Int} {gs : List Int} (h : GrS M n v d gs) : ∀ {d' : Int} {gs' : List Int}, GrS M n v d' gs' → d = d' ∧ gs = gs' := by
  induction h with
  | zero => intro d' gs' h'; cases h'; exact ⟨rfl, rfl⟩
  | skip _ hb ih =>
    intro d' gs' h'
    cases h' with
    | skip h2 hb2 => exact ih h2
    | take h2 hb2 k2 => obtain ⟨rfl, _⟩ := ih h2; rw [hb] at hb2; cases hb2
  | take _ hb k ih =>
    intro d' gs' h'
    cases h' with
    | skip h2 hb2 => obtain ⟨rfl, _⟩ := ih h2; rw [hb] at hb2; cases hb2
    | take h2 hb2 k2 =>
      obtain ⟨rfl, rfl⟩ := ih h2
      obtain rfl := k.eq k2
      exact ⟨rfl, rfl⟩
theorem GrS.u {M : List Int} {n v : Nat} {d : Int} {gs : List Int} (h : GrS M n v d gs) : U64 d ∧ gs.length ≤ v := by
  induction h with
  | zero => exact ⟨u64_zero, Nat.le_refl _⟩
  | skip _ _ ih => exact ⟨ih.1, by omega⟩
  | take _ _ _ ih => exact ⟨wrap_u64 _, by simp; omega⟩

/-- one round of the document's chains -/
def chainTo (M : List Int) (set : Int) (n : Nat) : Int := (List.range n).foldl (fun z v => if bitT set v then bits BinOp.or IntKind.u64 z (M.getD v 0) else z) set
theorem chain_succ (M : List Int) (set : Int) (n : Nat) : chainTo M set (n + 1) = if bitT set n then bits BinOp.or IntKind.u64 (chainTo M set n) (M.getD n 0) else chainTo M set n := by
  unfold chainTo; rw [List.range_succ, List.foldl_append]; rfl
theorem chain_way {M : List Int} (hM : AllU M) {N : Nat} {g : Int} (hg : U64 g) : ∀ (n : Nat), n ≤ N → OnWay M N g (chainTo M g n) ∧ g ≤ chainTo M g n
  | 0, _ => ⟨OnWay.refl hg, Int.le_refl _⟩
  | n + 1, h => by
    obtain ⟨ih, il⟩ := chain_way hM (N := N) hg n (by omega)
    rw [chain_succ]
    split
    · rename_i hc
      exact ⟨ih.or hM (v := n) (by omega) (.inl hc) hg, Int.le_trans il (bits_or_grow _ _ ih.u).1⟩
    · exact ⟨ih, il⟩
theorem chain_has {M : List Int} (hM : AllU M) {N : Nat} {g : Int} (hg : U64 g) : ∀ (n : Nat), n ≤ N → ∀ v, v < n → nb g v = true → ∀ i, mbit M v i = true → nb (chainTo M g n) i = true
  | 0, _ => fun v hv => by omega
  | n + 1, h => fun v hv hb i hi => by
    have w := (chain_way hM hg n (by omega : n ≤ N)).1
    rw [chain_succ]
    by_cases e : v < n
    · have := chain_has hM hg n (by omega : n ≤ N) v e hb i hi
      split
      · rw [nb_or w.u (hM.getD n), this]; rfl
      · exact this
    · obtain rfl : v = n := by omega
      rw [bitT_nb hg, if_pos hb, nb_or w.u (hM.getD v)]
      unfold mbit at hi
      rw [hi, Bool.or_true]
theorem chain_done {M : List Int} (hM : AllU M) {n : Nat} {s g : Int} (hw : OnWay M n s g) (h : chainTo M g n = g) : IsGrp M n s g :=
  ⟨hw.u, hw.up, fun v hv hb i hi => by rw [← h]; exact chain_has hM hw.u n (Nat.le_refl _) v hv hb i hi, hw.le⟩

theorem bitT_mod {x : Int} (hx : U64 x) (v : Nat) : (x / 2 ^ v) % 2 = if bitT x v then 1 else 0 := by
  rw [bitT_nb hx]
  obtain ⟨n, rfl⟩ : ∃ n : Nat, x = (n : Int) := ⟨x.toNat, by unfold U64 at hx; omega⟩
  have e : ((n : Int) / 2 ^ v) = ((n / 2 ^ v : Nat) : Int) := by push_cast; rfl
  rw [e, nb_cast, Nat.testBit_eq_decide_div_mod_eq]
  by_cases h : n / 2 ^ v % 2 = 1
  · simp [h]; omega
  · simp [h]; omega

theorem bitT_mod_t {x : Int} (hx : U64 x) (v : Nat) : (x / 2 ^ v).tmod 2 = if bitT x v then 1 else 0 := by
  rw [← bitT_mod hx v]
  have h0 : 0 ≤ x / 2 ^ v := Int.ediv_nonneg hx.1 (Int.pow_nonneg (by omega))
  exact Int.tmod_eq_emod_of_nonneg h0
end Go.Proofs.YtnenhecnkidnpaaGreat


/- The document's groups: walked. -/
namespace Go.Proofs.YtnenhecnkidnpaaGreat
open Go.RowKit Go.Maps Go.ChangeMaps Go.WideShapes

set_option maxRecDepth 100000 in
set_option maxHeartbeats 1600000 in
theorem group_spec (b0 n : Nat) (v : Value) (M : List Int) (s : Int) (w : World) (h : w.ownsRow b0 65 1 v n (flatU M)) (hl : M.length = n) (hn : n ≤ 64) (hM : AllU M) (hs : U64 s) :
    Calls Tryz.prog 101 #[v, .int .u64 s] w fun e w' => (∃ z, e = .returned (.int .u64 z) ∧ IsGrp M n s z) ∧ w' = w := by
  obtain ⟨fa, ca, rfl, _⟩ := row_nil_len h
  have HR := Lib.hid h
  have HM := Lib.hid hM
  have HS : Hid (OnWay M n s s) := OnWay.refl hs
  clear h hM hs
  go_enter Tryz.func101, Tryz.ntmps101
  go_wp2_with fail
  go_loopg [1] ((18446744073709551616 - s).toNat) (fun gg s1 wr => ∃ z : Int, (18446744073709551616 - z).toNat = gg ∧ s1 = .int .u64 z ∧ OnWay M n s z ∧ wr = w)
  case atStart => exact ⟨s, rfl, rfl, HS.out, rfl⟩
  case round =>
    obtain ⟨z, rfl, rfl, hO, rfl⟩ := hrel
    have HO := Lib.hid hO
    have HZ := Lib.hid hO.u
    clear hO HS
    go_wp2_with fail
    go_loopg [5, 10] n (fun gg s5 s10 wr2 => ∃ j : Nat, n - j = gg ∧ j ≤ n ∧ s10 = .int .i64 j ∧ s5 = .int .u64 (chainTo M z j) ∧ wr2 = wr)
    case atStart => exact ⟨0, by omega, by omega, rfl, rfl, rfl⟩
    case round =>
      obtain ⟨j, rfl, hj, rfl, rfl, rfl⟩ := hrel
      by_cases hlt : j < n
      · have hji : (j : Int) < (n : Int) := by omega
        have hj64 : j < 64 := by omega
        have HC := Lib.hid (chain_succ M z j)
        obtain ⟨m, hm⟩ : ∃ m, M[j]? = some m := ⟨_, List.getElem?_eq_getElem (by omega)⟩
        obtain ⟨rg, rfl⟩ := row_some HR.out (by omega)
        have cm := row_cell HR.out (j := j) (u := .int .u64 m) (by simp [flatU, hm])
        have hD : M.getD j 0 = m := by rw [List.getD_eq_getElem?_getD, hm]; rfl
        rw [hD] at HC
        have hbm := bitT_mod_t HZ.out j
        generalize chainTo M z j = ch at *
        cases hb : bitT z j with
        | true =>
          rw [hb, if_pos rfl] at HC hbm
          clear hD hm hb
          go_wp2_with fail
          go_roundg (n - (j + 1))
          case measure => omega
          case rel => exact ⟨j + 1, rfl, by omega, by simp, by rw [HC.out], rfl⟩
        | false =>
          rw [hb] at HC hbm
          simp only [Bool.false_eq_true, if_false] at HC hbm
          clear hD hm hb
          go_wp2_with fail
          go_roundg (n - (j + 1))
          case measure => omega
          case rel => exact ⟨j + 1, rfl, by omega, by simp, by rw [HC.out], rfl⟩
      · obtain rfl : j = n := by omega
        have hji : ¬ ((j : Int) < (j : Int)) := by omega
        obtain ⟨hw, hge⟩ := chain_way HM.out (N := j) HZ.out j (Nat.le_refl _)
        have HW := Lib.hid (And.intro (HO.out.trans hw) hge)
        have HU : Hid (U64 (chainTo M z j)) := hw.u
        by_cases e : chainTo M z j = z
        · have HG : Hid (IsGrp M j s z) := chain_done HM.out HO.out e
          rw [e]
          clear hw hge HW HU e
          go_wp2_with fail
          go_ret
          exact ⟨⟨z, rfl, HG.out⟩, rfl⟩
        · have hne : (chainTo M z j == z) = false := by simpa using e
          generalize chainTo M z j = ch at *
          clear hw hge
          go_wp2_with fail
          go_roundg ((18446744073709551616 - ch).toNat)
          case measure =>
            have h1 := HW.out.2
            have h2 := HU.out
            have h3 := HZ.out
            unfold U64 at h2 h3
            omega
          case rel => exact ⟨ch, rfl, rfl, HW.out.1, rfl⟩

set_option maxRecDepth 100000 in
set_option maxHeartbeats 1600000 in
theorem rgroups_spec (b0 n : Nat) (v : Value) (M : List Int) (w : World) (h : w.ownsRow b0 65 1 v n (flatU M)) (hl : M.length = n) (hn : n ≤ 64) (hM : AllU M) :
    Calls Tryz.prog 43 #[v] w fun e w' => ∃ (lv : Value) (d : Int) (gs : List Int), e = .returned lv ∧ GrS M n n d gs ∧ w'.ownsRow w.heap.size 65 1 lv gs.length (flatU gs) ∧ Upd [] w w' := by
  obtain ⟨ti, hi2, hz2, hs2, hb2⟩ := info_parts Tryz.infoU64
  have HI := Lib.hid (And.intro hi2 (And.intro hz2 (And.intro hs2 hb2)))
  obtain ⟨fa, ca, rfl, _⟩ := row_nil_len h
  have HR := Lib.hid h
  have HM := Lib.hid hM
  clear h hM hi2 hz2 hs2 hb2
  go_enter Tryz.func43, Tryz.ntmps43
  go_wp2_with fail
  go_loopg [3, 4, 9] n (fun gg s3 s4 s9 wr => ∃ (v : Nat) (d : Int) (gs : List Int), n - v = gg ∧ v ≤ n ∧ s9 = .int .i64 v ∧ s4 = .int .u64 d ∧ GrS M n v d gs ∧ wr.ownsRow w.heap.size 65 1 s3 gs.length (flatU gs) ∧ Upd [] w wr)
  case atStart => exact ⟨0, 0, [], by omega, by omega, rfl, rfl, .zero, World.ownsRow_nil _ _ _ _, Upd.refl _ _⟩
  case round =>
    obtain ⟨v, d, gs, rfl, hv, rfl, rfl, hG, ho, hU⟩ := hrel
    by_cases hlt : v < n
    · have hvi : (v : Int) < (n : Int) := by omega
      have hv64 : v < 64 := by omega
      have hbm := bitT_mod_t hG.u.1 v
      cases hbt : bitT d v with
      | true =>
        rw [hbt, if_pos rfl] at hbm
        have HE := Lib.hid (And.intro (hG.skip hbt) (And.intro ho hU))
        clear hG ho hU hbt
        go_wp2_with fail
        go_roundg (n - (v + 1))
        case measure => omega
        case rel => exact ⟨v + 1, d, gs, rfl, by omega, by simp, rfl, HE.out⟩
      | false =>
        rw [hbt] at hbm
        simp only [Bool.false_eq_true, if_false] at hbm
        have HB : Hid (bitT d v = false) := hbt
        have HG := Lib.hid (And.intro hG (And.intro ho hU))
        have hsz := hU.size
        have hln := hG.u.2
        have HRW := Lib.hid (row_keep HR.out fun k hk => hU.block k (HR.out.lt k hk).2 (by simp))
        clear hG ho hU hbt
        go_wp2_with fail
        refine (group_spec b0 n _ M _ _ HRW.out hl hn HM.out (wrap_u64 _)).mono ?_
        rintro e w3 ⟨⟨z, rfl, hz⟩, rfl⟩
        have HE := Lib.hid hz
        have HO := Lib.hid HG.out.2.1
        obtain ⟨fa', fc', hfv, _⟩ := row_nil_len HG.out.2.1
        subst hfv
        have HC2 : Hid (∀ u, u ∈ [Value.int .u64 z] → u.oneCell' = true) := by intro u hu; simp at hu; subst hu; rfl
        have hbs : w.heap.size ≤ (w3.alloc (.cells #[.int .u64 z] 65 (0, 0))).heap.size := by rw [World.size_alloc]; omega
        clear hz
        go_wp2_with (at_builtin; go_must (refine wpList_append_lies _ rfl (.tmp 24) (.tmp 26) 23 rfl w.heap.size 65 ti _ 1 8 Tryz.underlying23 HI.out.1 HI.out.2.1 HI.out.2.2.1 HI.out.2.2.2 (by rfl) (by decide) _ gs.length (flatU gs) rfl (HO.out.alloc _) ⟨w3.heap.size, 0, none⟩ 1 1 [.int .u64 z] rfl rfl ?c1 HC2.out (by omega) (by unfold maxLen; omega) (by omega) hbs _ rfl ?_))
        case c1 => exact World.news_of_block (heap_alloc_new w3 (.cells #[.int .u64 z] 65 (0, 0)))
        intro g5 cap w5 hown hgr hat hlt5
        have HX : Hid (w5.ownsRow w.heap.size 65 1 (.slice (some ⟨g5, 0, none⟩) (gs.length + 1) cap) (gs ++ [z]).length (flatU (gs ++ [z])) ∧ Upd [] w w5) := by
          refine ⟨by simpa [flatU] using hown, (HG.out.2.2.alloc _).grown hgr fun k hk => .inr ?_⟩
          exact (HO.out.lt k hk).1
        clear hown hgr hat hlt5
        go_wp2_with fail
        go_roundg (n - (v + 1))
        case measure => omega
        case rel => exact ⟨v + 1, _, gs ++ [z], rfl, by omega, by simp, rfl, HG.out.1.take HB.out HE.out, HX.out.1, HX.out.2⟩
    · obtain rfl : v = n := by omega
      have hvi : ¬ ((v : Int) < (v : Int)) := by omega
      have HE := Lib.hid (And.intro hG (And.intro ho hU))
      clear hG ho hU
      go_wp2_with fail
      go_ret
      exact ⟨_, rfl, d, gs, HE.out.1, HE.out.2.1, HE.out.2.2⟩
end Go.Proofs.YtnenhecnkidnpaaGreat


/- Supports of tables, the model's matrix, and what Free asks, by the model: plain. -/
namespace Go.Proofs.YtnenhecnkidnpaaGreat

/-- the support of a table, as it is summed -/
def supN (t : TV) (k : Nat) : Nat := (List.range k).foldl (fun s v => if depT t v then s + 2 ^ v else s) 0
theorem supN_succ (t : TV) (k : Nat) : supN t (k + 1) = if depT t k then supN t k + 2 ^ k else supN t k := by
  unfold supN; rw [List.range_succ, List.foldl_append]; rfl
theorem supN_bits (t : TV) : ∀ k, supN t k < 2 ^ k ∧ ∀ i, (supN t k).testBit i = (decide (i < k) && depT t i)
  | 0 => ⟨by simp [supN], fun i => by simp [supN]⟩
  | k + 1 => by
    obtain ⟨h1, h2⟩ := supN_bits t k
    rw [supN_succ]
    split
    · rename_i hd
      refine ⟨by rw [Nat.pow_succ]; omega, fun i => ?_⟩
      rw [tb_add (by rw [h2]; simp) i, h2]
      by_cases e : i = k
      · subst e; simp [hd]
      · rw [if_neg e]
        congr 1
        rw [Bool.eq_iff_iff]; simp; omega
    · rename_i hd
      refine ⟨by rw [Nat.pow_succ]; omega, fun i => ?_⟩
      rw [h2]
      by_cases e : i = k
      · subst e; simp [hd]
      · congr 1
        rw [Bool.eq_iff_iff]; simp; omega

def supT (t : TV) : Int := (supN t t.n : Nat)
theorem supT_bits {t : TV} (h : t.n ≤ 64) : U64 (supT t) ∧ ∀ i, nb (supT t) i = (decide (i < t.n) && depT t i) := by
  obtain ⟨h1, h2⟩ := supN_bits t t.n
  have : 2 ^ t.n ≤ 2 ^ 64 := Nat.pow_le_pow_right (by omega) h
  refine ⟨by unfold supT U64; omega, fun i => ?_⟩
  unfold supT
  rw [nb_cast, h2]

theorem SupIs.table {K : KV} {r : Nat} {s : Int} {t : TV} (hk : K.Ok) (hu : K.Uni) (h : SupIs K r s) (hr : Names K r t) (ht : t.Ok) (hn : t.n = K.vars) : s = supT t := by
  have hvs := hk.wf.vs
  obtain ⟨a1, a2⟩ := h.bits hk hu hr.1
  obtain ⟨b1, b2⟩ := supT_bits (t := t) (by omega)
  have e : K.den r = t.fn := funext hr.2
  refine nb_ext a1 b1 fun i _ => ?_
  rw [Bool.eq_iff_iff, a2, b2, e, Bool.and_eq_true, decide_eq_true_eq]
  constructor
  · intro hh
    have hi : i < t.n := by
      by_cases hi : i < t.n
      · exact hi
      · exfalso
        obtain ⟨y, hy⟩ := hh
        exact hy (t.fn_same fun v hv => by rw [upd_ne _ _ (by omega), upd_ne _ _ (by omega)])
    exact ⟨hi, (depT_iff ht hi).2 hh⟩
  · rintro ⟨hi, hd⟩
    exact (depT_iff ht hi).1 hd

/-- the model's matrix is the kernel's -/
theorem Agr.matrix {K : KV} {M : MV} {ss : List Int} (h : Agr K M) (hk : K.Ok) (hu : K.Uni) (hS : SupL K K.roots ss) :
    ss.foldl (matRow K.vars) (List.replicate K.vars 0) = (M.tabs.map supT).foldl (matRow K.vars) (List.replicate K.vars 0) := by
  have hvs := hk.wf.vs
  have key : ∀ s, s ∈ ss ↔ s ∈ M.tabs.map supT := fun s => by
    constructor
    · intro hs
      obtain ⟨i, hi⟩ := List.mem_iff_getElem?.1 hs
      obtain ⟨hil, _⟩ := List.getElem?_eq_some_iff.1 hi
      obtain ⟨r, hr⟩ : ∃ r, K.roots[i]? = some r := ⟨_, List.getElem?_eq_getElem (by rw [← hS.1]; exact hil)⟩
      have h0 := KV.mem_roots.1 (List.mem_of_getElem? hr)
      obtain ⟨t, c, hm, _, hd⟩ := h.lh r h0
      obtain ⟨t1, t2, _⟩ := h.hl t c hm
      exact List.mem_map.2 ⟨t, List.mem_map.2 ⟨_, hm, rfl⟩, ((hS.2 i r s hr hi).table hk hu ⟨(hk.wf.ht r h0).2, hd⟩ t1 t2).symm⟩
    · intro hs
      obtain ⟨t, ht, rfl⟩ := List.mem_map.1 hs
      obtain ⟨⟨t', c⟩, hm, rfl⟩ := List.mem_map.1 ht
      obtain ⟨t1, t2, r, h2, htk, hc, h0, hd⟩ := h.hl t' c hm
      obtain ⟨i, hi⟩ := List.mem_iff_getElem?.1 (KV.mem_roots.2 (show 0 < K.hold r by omega))
      obtain ⟨hil, _⟩ := List.getElem?_eq_some_iff.1 hi
      obtain ⟨s, hs⟩ : ∃ s, ss[i]? = some s := ⟨_, List.getElem?_eq_getElem (by rw [hS.1]; exact hil)⟩
      have := (hS.2 i r s hi hs).table hk hu ⟨htk, hd⟩ t1 t2
      show supT t' ∈ ss
      rw [← this]; exact List.mem_of_getElem? hs
  refine mat_same hvs.2 (fun s hs => ?_) (fun s hs => ?_) key
  all_goals
    obtain ⟨t, ht, rfl⟩ := List.mem_map.1 (by first | exact hs | exact (key s).1 hs)
    obtain ⟨⟨t', c⟩, hm, rfl⟩ := List.mem_map.1 ht
    obtain ⟨_, t2, _⟩ := h.hl t' c hm
    exact (supT_bits (by show t'.n ≤ 64; omega)).1

/-! ### Free -/

theorem levT_get : ∀ (o : List Nat) (c : List TV) {i v : Nat}, o[i]? = some v → (levT c o)[i]? = some (nodesT (curT c (o.take i)) v)
  | [], c, i, v, h => by simp at h
  | a :: o, c, 0, v, h => by simp at h; subst h; rfl
  | a :: o, c, i + 1, v, h => levT_get o (givenT c a) (i := i) h

/-- what a table's place among the levels says of its node's variable -/
theorem lev_var {K : KV} {L : List TV} (hk : K.Ok) (hu : K.Uni) (hL : ∀ t, t ∈ L → t.Ok ∧ t.n = K.vars) {i v r : Nat} {t : TV} (ho : K.order[i]? = some v) (hc : t ∈ curT L (K.order.take i)) (hd : depT t v = true) (h2 : 2 ≤ r) (ht : K.A.tk r = true) (e : K.tab r = t) : K.vof r = v := by
  have hp := hk.ord.pm
  obtain ⟨hv, hlv⟩ := hp.at_order ho
  obtain ⟨a1, a2, t0, _, a, ha⟩ := (mem_curT (n := K.vars) _ _ hL (fun x hx => hp.mem_order (List.mem_of_mem_take hx))).1 hc
  have ef : t.fn = K.den r := funext fun y => by rw [← e, hk.tab_fn ht]
  have hh : Hangs (K.den r) v := by rw [← ef]; exact (depT_iff a1 (by omega)).1 hd
  obtain ⟨p, x, hpp, hpt, hpv, hx, _, _, hdx⟩ := hk.wf.node_at h2 ht
  obtain ⟨y, hy, hdy, hhy, hno⟩ := hk.node_hangs hu h2 ht
  have hxy : x = y := hp.inj hx hy (by omega)
  subst hxy
  have e1 : ¬ K.lev x < K.lev v := fun hlt => by
    obtain ⟨z, hz⟩ := hhy
    rw [← ef] at hz
    refine hz ?_
    rw [ha, ha]
    congr 1
    funext u
    unfold mixO
    split
    · rfl
    · rename_i hu'
      rw [upd_ne _ _ (fun e => hu' (by rw [e]; exact hp.mem_take.2 ⟨hx, by omega⟩)), upd_ne _ _ (fun e => hu' (by rw [e]; exact hp.mem_take.2 ⟨hx, by omega⟩))]
  have e2 : ¬ K.lev v < K.lev x := fun hlt => hno v hv hlt hh
  have : x = v := hp.inj hx hv (by omega)
  subst this
  simp [KV.vof, hpp, hpv]

theorem Agr.level {K : KV} {M : MV} (h : Agr K M) (hk : K.Ok) (hu : K.Uni) (hn : K.vars ≤ 16) {l u : Nat} (ho : K.order[l]? = some u) {t : TV} :
    t ∈ nodesT (curT (unlikeT M.tabs) (K.order.take l)) u ↔ ∃ r, 2 ≤ r ∧ K.A.tk r = true ∧ K.tab r = t ∧ K.vof r = u := by
  have hL : ∀ t, t ∈ unlikeT M.tabs → t.Ok ∧ t.n = K.vars := fun t ht => h.roots.ok t (mem_unlikeT.1 ht)
  rw [mem_nodesT]
  constructor
  · rintro ⟨h1, h2⟩
    have hf : t ∈ M.lev.flatten := by
      rw [MV.lev_flat h.same]
      exact (mem_levF _ _).2 ⟨l, u, ho, h1, h2⟩
    obtain ⟨r, r2, rt, re⟩ := (h.mem hk hu hn).1 hf
    exact ⟨r, r2, rt, re, lev_var hk hu hL ho h1 h2 r2 rt re⟩
  · rintro ⟨r, r2, rt, re, rv⟩
    have hf := (h.mem hk hu hn).2 ⟨r, r2, rt, re⟩
    rw [MV.lev_flat h.same] at hf
    obtain ⟨i, v, q1, q2, q3⟩ := (mem_levF _ _).1 hf
    have hv := lev_var hk hu hL q1 q2 q3 r2 rt re
    obtain rfl : u = v := by rw [← rv, hv]
    have e1 := (hk.ord.pm.at_order q1).2
    have e2 := (hk.ord.pm.at_order ho).2
    obtain rfl : i = l := by omega
    exact ⟨q2, q3⟩

/-- the top variable of a function is its node's -/
theorem Same.top {K : KV} {M : MV} (h : Same K M) (hk : K.Ok) (hu : K.Uni) {t : TV} {r : Nat} (ht : t.Ok) (hn : t.n = K.vars) (hr : Names K r t) : topI (M.top t) = K.vr r := by
  have hp := hk.ord.pm
  have ef : K.den r = t.fn := funext hr.2
  unfold MV.top
  rw [h.od]
  by_cases h2 : 2 ≤ r
  · obtain ⟨p, x, hpp, hpt, hpv, hx, _, _, hdx⟩ := hk.wf.node_at h2 hr.1
    obtain ⟨y, hy, hdy, hhy, hno⟩ := hk.node_hangs hu h2 hr.1
    have hxy : x = y := hp.inj hx hy (by omega)
    subst hxy
    rw [find_take (hp.order_at hx) ((depT_iff ht (by omega)).2 (by rw [← ef]; exact hhy)) fun v hv => ?_, KV.vr_at hpp, hpv]
    · rfl
    · obtain ⟨v1, v2⟩ := hp.mem_take.1 hv
      cases hd : depT t v with
      | false => rfl
      | true => exact absurd (by rw [ef]; exact (depT_iff ht (by omega)).1 hd) (hno v v1 v2)
  · have hnone : K.order.find? (fun v => depT t v) = none := by
      rw [List.find?_eq_none]
      intro v hv hd
      obtain ⟨y, hy⟩ := (depT_iff ht (by rw [hn]; exact hp.mem_order hv)).1 hd
      rw [← ef] at hy
      have hc : ∀ z, K.den r z = (r == 1) := fun z => K.den_const (by omega) z
      exact hy (by rw [hc, hc])
    obtain ⟨p, hpp, _⟩ := ArenaV.tk_iff.1 hr.1
    rw [hnone, KV.vr_at hpp, hk.wf.const_var (by omega) hpp]
    rfl

/-- Free, by the model -/
theorem Agr.free {K : KV} {M : MV} (h : Agr K M) (hk : K.Ok) (hu : K.Uni) (hn : K.vars ≤ 16) {l u x : Nat} (ho : K.order[l]? = some u) (_hx : K.order[l + 1]? = some x) :
    K.FreeUV u x ↔ ∀ t, t ∈ nodesT (curT (unlikeT M.tabs) (K.order.take l)) u → ¬ (topI (M.top (cofT t u false)) = x ∨ topI (M.top (cofT t u true)) = x) := by
  have hp := hk.ord.pm
  have hul := (hp.at_order ho).1
  have key : ∀ {r : Nat} {p : PlaceV} {t : TV}, 2 ≤ r → K.A.list[r]? = some p → p.taken = true → p.var = (u : Int) → K.tab r = t → topI (M.top (cofT t u false)) = K.vr p.lo ∧ topI (M.top (cofT t u true)) = K.vr p.hi := fun {r p t} h2 hpp hpt hpv e => by
    have htk : K.A.tk r = true := ArenaV.tk_iff.2 ⟨p, hpp, hpt⟩
    have hcl := hk.wf.cl r p h2 hpp hpt
    have tok : t.Ok ∧ t.n = K.vars := by rw [← e]; exact KV.tab_ok hn r
    have kid : ∀ b : Bool, Names K (if b then p.hi else p.lo) (cofT t u b) := fun b => by
      refine ⟨by cases b; exact hcl.1; exact hcl.2, fun y => ?_⟩
      rw [hk.kid_den h2 hpp hpt b y, cofT_fn (by rw [tok.2]; exact hul), ← e, hk.tab_fn htk, hpv]
      rfl
    exact ⟨h.same.top hk hu (cofT_ok tok.1 u false) tok.2 (kid false), h.same.top hk hu (cofT_ok tok.1 u true) tok.2 (kid true)⟩
  constructor
  · intro hF t ht
    obtain ⟨r, r2, rt, re, rv⟩ := (h.level hk hu hn ho).1 ht
    obtain ⟨p, v, hpp, hpt, hpv, _⟩ := hk.wf.node_at r2 rt
    have hvu : v = u := by rw [← rv]; simp [KV.vof, hpp, hpv]
    subst hvu
    obtain ⟨k1, k2⟩ := key r2 hpp hpt hpv re
    rw [k1, k2]
    exact fun hh => hF r p r2 hpp hpt ⟨hpv, hh⟩
  · rintro hT r p r2 hpp hpt ⟨hpv, hh⟩
    have htk : K.A.tk r = true := ArenaV.tk_iff.2 ⟨p, hpp, hpt⟩
    obtain ⟨k1, k2⟩ := key r2 hpp hpt hpv rfl
    refine hT (K.tab r) ((h.level hk hu hn ho).2 ⟨r, r2, htk, rfl, by simp [KV.vof, hpp, hpv]⟩) ?_
    rw [k1, k2]
    exact hh
end Go.Proofs.YtnenhecnkidnpaaGreat


/- What the document says of Free: walked. -/
namespace Go.Proofs.YtnenhecnkidnpaaGreat
open Go.RowKit Go.Maps Go.ChangeMaps Go.WideShapes

/-- what Free asks of one function -/
def MV.freeT (M : MV) (u x : Nat) (t : TV) : Bool := !(decide (topI (M.top (cofT t u false)) = x) || decide (topI (M.top (cofT t u true)) = x))

theorem docfree_bad (m : Nat) (M : MV) (p : MPtr) (Z : List Nat) (l : Int) (w : World) (h : ModIn w m M p Z) (hf : M.Fit) (hl : l < 0 ∨ (M.n : Int) - 2 < l) :
    Calls Tryz.prog 45 #[.pointer (some ⟨m, 0, none⟩), .int .i64 l] w fun e w' => e = .returned (.tuple #[.bool false, .int .i64 1]) ∧ Upd [] w w' := by
  obtain ⟨c0, _, _, _, _⟩ := h.cells
  have hn6 := hf.n6
  have hd4 : IntKind.i64.wrap ((M.n : Int) - 2) = (M.n : Int) - 2 := IntWalk.i64_in _ (by omega)
  clear h hf
  generalize M.n = n at *
  by_cases hneg : l < 0
  · have hd1 : decide (l < 0) = true := by simpa using hneg
    clear hl
    go_enter Tryz.func45, Tryz.ntmps45
    go_wp2_with fail
    go_ret2
    exact ⟨rfl, Upd.refl _ _⟩
  · have hd1 : decide (l < 0) = false := by simpa using hneg
    have hd3 : (n : Int) - 2 < l := by omega
    clear hl
    go_enter Tryz.func45, Tryz.ntmps45
    go_wp2_with fail
    go_ret2
    exact ⟨rfl, Upd.refl _ _⟩

set_option maxRecDepth 100000 in
set_option maxHeartbeats 3200000 in
theorem docfree_spec (m : Nat) (M : MV) (p : MPtr) (Z : List Nat) (l u x : Nat) (L : List TV) (w : World) (h : ModIn w m M p Z) (hZ : ∀ k, k ∈ Z → k < w.heap.size) (hf : M.Fit) (hn : l + 2 ≤ M.n) (hx : M.order[l + 1]? = some x) (hL : M.lev[l]? = some L) (hLt : ∀ t, t ∈ L → t.n = M.n ∧ M.top t = some u) :
    Calls Tryz.prog 45 #[.pointer (some ⟨m, 0, none⟩), .int .i64 l] w fun e w' => e = .returned (.tuple #[.bool (L.all (M.freeT u x)), .int .i64 0]) ∧ Upd [] w w' := by
  have hlo : l + 1 < M.order.length := (List.getElem?_eq_some_iff.1 hx).1
  have hll : l < M.lev.length := (List.getElem?_eq_some_iff.1 hL).1
  obtain ⟨oa, oc, hov, _⟩ := row_nil_len h.os
  have hos := h.os
  rw [hov] at hos
  obtain ⟨og, rfl⟩ := row_some hos (by omega)
  obtain ⟨c0, _, c2, _, _⟩ := h.cells
  rw [hov] at c2
  have cx := row_cell hos (j := l + 1) (u := .int .i64 x) (by simp [flatN, hx])
  have HK : Hid (∀ y : World, Upd [] w y → y.cell? ⟨m, 2, none⟩ = some (.slice (some ⟨og, 0, none⟩) M.order.length oc) ∧ y.cell? ⟨og, l + 1, none⟩ = some (.int .i64 x)) := fun y hu => ⟨hu.cell0 c2, hu.cell0 cx⟩
  have HM := Lib.hid h
  have HZ : Hid (∀ y : World, Upd [] w y → ∀ k, k ∈ Z → k < y.heap.size) := fun y u k hk => Nat.lt_of_lt_of_le (hZ k hk) u.size
  have HF := Lib.hid hf
  have HLT := Lib.hid hLt
  have HL := Lib.hid hL
  have hLl : L.length ≤ 1610612736 := hf.lev_le (List.mem_of_getElem? hL)
  have HLV := Lib.hid (mlevels_spec m M p Z w h hZ hf)
  have hn6 := hf.n6
  have hol := hf.ol
  have hlv6 := hf.lev_len
  have hd1 : decide ((l : Int) < 0) = false := by simp
  have hd2 : ¬ ((l : Int) < 0) := by omega
  have hd3 : ¬ ((M.n : Int) - 2 < (l : Int)) := by omega
  have hd4 : IntKind.i64.wrap ((M.n : Int) - 2) = (M.n : Int) - 2 := IntWalk.i64_in _ (by omega)
  have hd5 : IntKind.i64.wrap ((l : Int) + 1) = (l : Int) + 1 := IntWalk.i64_in _ (by omega)
  have hd6 : (l : Int) + 1 < (M.order.length : Int) := by omega
  have hd7 : 0 ≤ (l : Int) + 1 := by omega
  have hd8 : (l : Int) < (M.lev.length : Int) := by omega
  have hd9 : (((l : Int) + 1).toNat) = l + 1 := by omega
  have HN : Hid (∃ n, n = M.n) := ⟨_, rfl⟩
  clear h hZ hf hLt hL hos cx c2 hov hx
  go_enter Tryz.func45, Tryz.ntmps45
  go_wp2_with fail
  refine HLV.out.mono ?_
  rintro e w1 hE
  obtain ⟨v, rfl, hT, hu⟩ := hE.ex
  obtain ⟨la, lc, rfl, hla⟩ := hT.form
  obtain ⟨lg, rfl⟩ := hla (by omega)
  obtain ⟨cl, k0, hTL⟩ := hT.at_ HL.out
  obtain ⟨ta, tc, rfl, hta⟩ := hTL.form
  have HT := Lib.hid hTL
  have HU1 := Lib.hid hu
  clear hE hT hu hla hTL HLV c0
  go_wp2_with fail
  go_loopg [27] L.length (fun gg s27 wr => ∃ i : Nat, L.length - i = gg ∧ i ≤ L.length ∧ s27 = .int .i64 i ∧ (∀ t, t ∈ L.take i → M.freeT u x t = true) ∧ Upd [] w1 wr)
  case atStart => exact ⟨0, by omega, by omega, rfl, fun t ht => (by simp at ht), Upd.refl _ _⟩
  case round =>
    obtain ⟨i, rfl, hi, rfl, hA, hU⟩ := hrel
    clear k0
    by_cases hlt : i < L.length
    · obtain ⟨t, ht⟩ : ∃ t, L[i]? = some t := ⟨_, List.getElem?_eq_getElem hlt⟩
      obtain ⟨tg, rfl⟩ := hta (by omega)
      obtain ⟨ct, x0, x1, htt⟩ := (HT.out.keep0 hU).at_ ht
      obtain ⟨ua, uc, hcu, _⟩ := row_nil_len htt.row
      subst hcu
      have hil : (i : Int) < (L.length : Int) := by omega
      have HTT := Lib.hid (HLT.out t (List.mem_of_getElem? ht))
      obtain ⟨z0, z1⟩ := boxT wr (.int .i64 t.n) (.slice ua t.ws.length uc)
      have hUB : Upd [] wr (wr.alloc (.cells #[.int .i64 t.n, .slice ua t.ws.length uc] 72 (0, 0))) := (Upd.refl _ _).alloc _
      have HUB := Lib.hid (HU1.out.trans (hU.trans hUB))
      have HCH := Lib.hid (children_spec m M p Z _ t u _ (HM.out.keep0 HUB.out) (HZ.out _ HUB.out) HF.out (htt.keep0 hUB) HTT.out.1 HTT.out.2)
      have HA := Lib.hid hA
      have HTI := Lib.hid (And.intro ht (And.intro htt.ok hU))
      unfold tabV at HCH
      have e1 : (cofT t u false).n = t.n := rfl
      have e2 : (cofT t u true).n = t.n := rfl
      generalize t.ws.length = UW at *
      generalize htn : t.n = n at *
      have HTN := Lib.hid htn
      clear hU htt hUB ht hA htn
      go_wp2_with fail
      refine HCH.out.mono ?_
      rintro e w4 hE
      obtain ⟨q1, q2, rfl, h1, h2, hu⟩ := hE.ex
      obtain ⟨fa, fc, hlv, _⟩ := row_nil_len h1.row
      obtain ⟨ga, gc, hgv, _⟩ := row_nil_len h2.row
      subst hlv hgv
      have HU4 := Lib.hid (HUB.out.trans hu)
      have HW4 := Lib.hid (((Upd.refl [] wr).alloc (.cells #[.int .i64 n, .slice ua UW uc] 72 (0, 0))).trans hu)
      have HC1 := Lib.hid (h1.tin (HZ.out _ HUB.out))
      have HC2 := Lib.hid (h2.tin (HZ.out _ HUB.out))
      have HU5 : Hid (Upd [] w ((w4.alloc (.cells #[.int .i64 n, .slice fa (cofT t u false).ws.length fc] 72 (0, 0))).alloc (.cells #[.int .i64 n, .slice ga (cofT t u true).ws.length gc] 72 (0, 0)))) := (HU4.out.alloc _).alloc _
      have HTP1 : Hid (∀ y : World, Upd [] w4 y → Calls Tryz.prog 104 #[.pointer (some ⟨m, 0, none⟩), tabV (cofT t u false) (.slice fa (cofT t u false).ws.length fc)] y fun e w' => e = .returned (.int .i64 (topI (M.top (cofT t u false)))) ∧ Upd [] y w') := fun y uy =>
        top_spec9 m M p Z _ _ y (HM.out.keep0 (HU4.out.trans uy)) (HZ.out y (HU4.out.trans uy)) HF.out (HC1.out.keep0 uy) (e1.trans HTT.out.1)
      have HTP2 : Hid (∀ y : World, Upd [] w4 y → Calls Tryz.prog 104 #[.pointer (some ⟨m, 0, none⟩), tabV (cofT t u true) (.slice ga (cofT t u true).ws.length gc)] y fun e w' => e = .returned (.int .i64 (topI (M.top (cofT t u true)))) ∧ Upd [] y w') := fun y uy =>
        top_spec9 m M p Z _ _ y (HM.out.keep0 (HU4.out.trans uy)) (HZ.out y (HU4.out.trans uy)) HF.out (HC2.out.keep0 uy) (e2.trans HTT.out.1)
      have HFT : Hid (M.freeT u x t = !(decide (topI (M.top (cofT t u false)) = x) || decide (topI (M.top (cofT t u true)) = x))) := rfl
      unfold tabV at HTP1 HTP2 ⊢
      rw [e1] at HTP1
      rw [e2] at HTP2
      rw [e1, e2]
      generalize (cofT t u false).ws.length = LW at *
      generalize (cofT t u true).ws.length = GW at *
      generalize topI (M.top (cofT t u false)) = t1 at *
      generalize topI (M.top (cofT t u true)) = t2 at *
      clear hE h1 h2 hu z0 z1 HCH x0 x1 e1 e2
      go_wp2_with fail
      obtain ⟨wz, hwz⟩ : ∃ wz, ((w4.alloc (.cells #[.int .i64 n, .slice fa LW fc] 72 (0, 0))).alloc (.cells #[.int .i64 n, .slice ga GW gc] 72 (0, 0))) = wz := ⟨_, rfl⟩
      have hu4z : Upd [] w4 wz := by rw [← hwz]; exact ((Upd.refl [] w4).alloc _).alloc _
      have hbA : wz.cell? ⟨w4.heap.size, 0, none⟩ = some (.int .i64 n) ∧ wz.cell? ⟨w4.heap.size, 1, none⟩ = some (.slice fa LW fc) := by
        rw [← hwz]; exact boxT_keep ((Upd.refl [] _).alloc _) (boxT w4 _ _)
      have hbB : wz.cell? ⟨w4.heap.size + 1, 0, none⟩ = some (.int .i64 n) ∧ wz.cell? ⟨w4.heap.size + 1, 1, none⟩ = some (.slice ga GW gc) := by
        have h := boxT (w4.alloc (.cells #[.int .i64 n, .slice fa LW fc] 72 (0, 0))) (.int .i64 n) (.slice ga GW gc)
        rw [World.size_alloc] at h
        rw [← hwz]; exact h
      rw [hwz] at HU5
      have hkz := HK.out wz HU5.out
      have q1 : ∀ y : Still wz, y.x.cell? ⟨w4.heap.size, 0, none⟩ = some (.int .i64 n) := fun y => y.cell hbA.1
      have q2 : ∀ y : Still wz, y.x.cell? ⟨w4.heap.size, 1, none⟩ = some (.slice fa LW fc) := fun y => y.cell hbA.2
      have q3 : ∀ y : Still wz, y.x.cell? ⟨w4.heap.size + 1, 0, none⟩ = some (.int .i64 n) := fun y => y.cell hbB.1
      have q4 : ∀ y : Still wz, y.x.cell? ⟨w4.heap.size + 1, 1, none⟩ = some (.slice ga GW gc) := fun y => y.cell hbB.2
      have q5 : ∀ y : Still wz, y.x.cell? ⟨m, 2, none⟩ = some (.slice (some ⟨og, 0, none⟩) M.order.length oc) := fun y => y.cell hkz.1
      have q6 : ∀ y : Still wz, y.x.cell? ⟨og, l + 1, none⟩ = some (.int .i64 x) := fun y => y.cell hkz.2
      have HQ1 : Hid (∀ y : Still wz, Calls Tryz.prog 104 #[.pointer (some ⟨m, 0, none⟩), .agg #[.int .i64 n, .slice fa LW fc]] y.x fun e w' => e = .returned (.int .i64 t1) ∧ ∃ z : Still wz, w' = z.x) := fun y =>
        (HTP1.out _ (hu4z.trans y.u)).mono fun _ _ ⟨a, v⟩ => ⟨a, ⟨_, y.u.trans v⟩, rfl⟩
      have HQ2 : Hid (∀ y : Still wz, Calls Tryz.prog 104 #[.pointer (some ⟨m, 0, none⟩), .agg #[.int .i64 n, .slice ga GW gc]] y.x fun e w' => e = .returned (.int .i64 t2) ∧ ∃ z : Still wz, w' = z.x) := fun y =>
        (HTP2.out _ (hu4z.trans y.u)).mono fun _ _ ⟨a, v⟩ => ⟨a, ⟨_, y.u.trans v⟩, rfl⟩
      rw [hwz]
      have HU1Z : Hid (Upd [] w1 wz) := HTI.out.2.2.trans (HW4.out.trans hu4z)
      clear hwz hu4z hbA hbB hkz HTP1 HTP2
      have hx0 : ∀ t : Int, (t == (x : Int)) = decide (t = (x : Int)) := fun t => by by_cases h : t = (x : Int) <;> simp [h]
      cases hb1 : (t1 == (x : Int)) with
      | true =>
        have HALL : Hid (L.all (M.freeT u x) = false) := by
          show L.all _ = false
          rw [List.all_eq_false]
          refine ⟨t, List.mem_of_getElem? HTI.out.1, ?_⟩
          rw [hx0] at hb1
          rw [HFT.out, hb1]; simp
        obtain rfl : t1 = (x : Int) := eq_of_beq hb1
        clear hx0 hb1
        refine wp_region_still (by kernel_rfl) (by kernel_rfl) ?_
        repeat (go_big_quiet_step ((first | (go_at_call_of 104 (Value.agg #[.int .i64 n, .slice fa LW fc]); exact HQ1.out _) | (go_at_call_of 104 (Value.agg #[.int .i64 n, .slice ga GW gc]); exact HQ2.out _))))
        refine wpQuiet_nil ?_
        rintro _ ⟨n2, rfl⟩
        go_wp2_with fail
        go_ret2
        exact ⟨by rw [HALL.out]; rfl, HU5.out.trans n2.u⟩
      | false =>
        cases hb2 : (t2 == (x : Int)) with
        | true =>
          have HALL : Hid (L.all (M.freeT u x) = false) := by
            show L.all _ = false
            rw [List.all_eq_false]
            refine ⟨t, List.mem_of_getElem? HTI.out.1, ?_⟩
            rw [hx0] at hb2
            rw [HFT.out, hb2]; simp
          obtain rfl : t2 = (x : Int) := eq_of_beq hb2
          have hc1 : decide (t1 = (x : Int)) = false := by rw [← hx0]; exact hb1
          have hn1 : ¬ t1 = (x : Int) := of_decide_eq_false hc1
          clear hx0 hb2
          refine wp_region_still (by kernel_rfl) (by kernel_rfl) ?_
          repeat (go_big_quiet_step ((first | (go_at_call_of 104 (Value.agg #[.int .i64 n, .slice fa LW fc]); exact HQ1.out _) | (go_at_call_of 104 (Value.agg #[.int .i64 n, .slice ga GW gc]); exact HQ2.out _))))
          refine wpQuiet_nil ?_
          rintro _ ⟨n2, rfl⟩
          go_wp2_with fail
          go_ret2
          exact ⟨by rw [HALL.out]; rfl, HU5.out.trans n2.u⟩
        | false =>
          have HALL : Hid (M.freeT u x t = true) := by
            show _ = true
            rw [hx0] at hb1 hb2
            rw [HFT.out, hb1, hb2]; rfl
          have hc1 : decide (t1 = (x : Int)) = false := by rw [← hx0]; exact hb1
          have hn1 : ¬ t1 = (x : Int) := of_decide_eq_false hc1
          have hc2 : decide (t2 = (x : Int)) = false := by rw [← hx0]; exact hb2
          have hn2 : ¬ t2 = (x : Int) := of_decide_eq_false hc2
          clear hx0
          refine wp_region_still (by kernel_rfl) (by kernel_rfl) ?_
          repeat (go_big_quiet_step ((first | (go_at_call_of 104 (Value.agg #[.int .i64 n, .slice fa LW fc]); exact HQ1.out _) | (go_at_call_of 104 (Value.agg #[.int .i64 n, .slice ga GW gc]); exact HQ2.out _))))
          refine wpQuiet_nil ?_
          rintro _ ⟨n2, rfl⟩
          have HUE := Lib.hid (HU1Z.out.trans n2.u)
          clear q1 q2 q3 q4 q5 q6
          go_wp2_with fail
          go_roundg (L.length - (i + 1))
          case measure => omega
          case rel =>
            refine ⟨i + 1, rfl, by omega, by simp, fun s hs => ?_, HUE.out⟩
            rw [List.take_add_one, HTI.out.1] at hs
            rcases List.mem_append.1 hs with hs | hs
            · exact HA.out s hs
            · simp at hs; subst hs; exact HALL.out
    · obtain rfl : i = L.length := by omega
      have hil : ¬ ((L.length : Int) < (L.length : Int)) := by omega
      rw [List.take_length] at hA
      have HALL : Hid (L.all (M.freeT u x) = true) := List.all_eq_true.2 hA
      have HUE := Lib.hid (HU1.out.trans hU)
      clear hA hU
      go_wp2_with fail
      go_ret2
      exact ⟨by rw [HALL.out]; rfl, HUE.out⟩
end Go.Proofs.YtnenhecnkidnpaaGreat


/- Free, Matrix and Groups of a world that stands as its model. -/
namespace Go.Proofs.YtnenhecnkidnpaaGreat
open Go.RowKit Go.Maps Go.ChangeMaps Go.WideShapes

set_option maxRecDepth 100000 in
theorem free_bad (b : Nat) (l : Int) (K : KV) (T : List DM) (q : KPtr) (w : World) (h : KerIn w b K T q) (hl : l < 0 ∨ (K.vars : Int) - 2 < l) :
    Calls Tryz.prog 44 #[.pointer (some ⟨b, 0, none⟩), .int .i64 l] w fun e w' => e = .returned (.tuple #[.bool false, .int .i64 1]) ∧ Upd [] w w' := by
  have HK := Lib.hid h
  have hol := h.ok.ord.pm.ol
  have hvs := h.ok.wf.vs
  have hd4 : IntKind.i64.wrap ((K.vars : Int) - 2) = (K.vars : Int) - 2 := IntWalk.i64_in _ (by omega)
  clear h
  by_cases hneg : l < 0
  · have hd1 : decide (l < 0) = true := by simpa using hneg
    clear hl
    go_enter Tryz.func44, Tryz.ntmps44
    go_wp2_with fail
    refine (order_spec b K T q w HK.out.mem (by omega) (by omega)).mono ?_
    rintro e w1 ⟨go, gc, rfl, hor, hu1⟩
    rw [hol]
    have HU1 := Lib.hid hu1
    clear hor hu1
    go_wp2_with fail
    go_ret2
    exact ⟨rfl, HU1.out⟩
  · have hd1 : decide (l < 0) = false := by simpa using hneg
    have hd3 : (K.vars : Int) - 2 < l := by omega
    clear hl
    go_enter Tryz.func44, Tryz.ntmps44
    go_wp2_with fail
    refine (order_spec b K T q w HK.out.mem (by omega) (by omega)).mono ?_
    rintro e w1 ⟨go, gc, rfl, hor, hu1⟩
    rw [hol]
    have HU1 := Lib.hid hu1
    clear hor hu1
    go_wp2_with fail
    go_ret2
    exact ⟨rfl, HU1.out⟩

def MV.freeC (M : MV) (l : Int) : Int := if l < 0 ∨ (M.n : Int) - 2 < l then 1 else 0
def MV.freeB (M : MV) (l : Int) : Bool := if l < 0 ∨ (M.n : Int) - 2 < l then false else (M.lev.getD l.toNat []).all (M.freeT (M.order.getD l.toNat 0) (M.order.getD (l.toNat + 1) 0))

theorem lev_at {M : MV} {l u : Nat} (h : M.order[l]? = some u) : M.lev[l]? = some (nodesT (curT (unlikeT M.tabs) (M.order.take l)) u) := levT_get _ _ h
theorem getD_of {α : Type} {L : List α} {i : Nat} {x d : α} (h : L[i]? = some x) : L.getD i d = x := by rw [List.getD_eq_getElem?_getD, h]; rfl

theorem free_laid {w : World} {b m : Nat} {rv tv : Value} {K : KV} {F : List Nat} {M : MV} {p : MPtr} {refs : List Nat} {tabs : List TV} (h : WMem w b m rv tv K F M p refs tabs) (lg : WLog K M refs tabs) (l : Int) :
    Calls Tryz.prog 44 #[.pointer (some ⟨b, 0, none⟩), .int .i64 l] w fun e w' => e = .returned (.tuple #[.bool (M.freeB l), .int .i64 (M.freeC l)]) ∧ Upd [] w w' := by
  obtain ⟨T, q, hk, _⟩ := h.ker
  have hn := lg.agr.same.n
  have h6 := lg.fit.n6
  have hu := hk.ti.uni hk.ok.wf
  by_cases hb : l < 0 ∨ (M.n : Int) - 2 < l
  · unfold MV.freeB MV.freeC
    rw [if_pos hb, if_pos hb]
    exact free_bad b l K T q w hk (by rw [← hn]; exact hb)
  · obtain ⟨j, rfl⟩ : ∃ j : Nat, l = (j : Int) := ⟨l.toNat, by omega⟩
    unfold MV.freeB MV.freeC
    rw [if_neg hb, if_neg hb]
    have hol := hk.ok.ord.pm.ol
    obtain ⟨u, hu0⟩ : ∃ u, K.order[j]? = some u := ⟨_, List.getElem?_eq_getElem (by omega)⟩
    obtain ⟨x, hx0⟩ : ∃ x, K.order[j + 1]? = some x := ⟨_, List.getElem?_eq_getElem (by omega)⟩
    have hu1 : M.order[j]? = some u := by rw [lg.agr.same.od]; exact hu0
    have hx1 : M.order[j + 1]? = some x := by rw [lg.agr.same.od]; exact hx0
    rw [Int.toNat_natCast, getD_of (lev_at hu1), getD_of hu1, getD_of hx1]
    refine (free_spec b j K T q w hk (by omega) u x (getD_of hu0) (getD_of hx0)).mono fun e w' P => ?_
    obtain ⟨B, rfl, hB, hU⟩ := P.ex
    have hfr := lg.agr.free hk.ok hu (by omega) hu0 hx0
    have e : B = (nodesT (curT (unlikeT M.tabs) (M.order.take j)) u).all (M.freeT u x) := by
      rw [Bool.eq_iff_iff, hB, hfr, List.all_eq_true, lg.agr.same.od]
      simp only [MV.freeT, Bool.not_eq_true', Bool.or_eq_false_iff, decide_eq_false_iff_not, not_or]
    rw [e]
    exact ⟨rfl, hU⟩

theorem docfree_laid {w : World} {b m : Nat} {rv tv : Value} {K : KV} {F : List Nat} {M : MV} {p : MPtr} {refs : List Nat} {tabs : List TV} (h : WMem w b m rv tv K F M p refs tabs) (lg : WLog K M refs tabs) (l : Int) :
    Calls Tryz.prog 45 #[.pointer (some ⟨m, 0, none⟩), .int .i64 l] w fun e w' => e = .returned (.tuple #[.bool (M.freeB l), .int .i64 (M.freeC l)]) ∧ Upd [] w w' := by
  obtain ⟨T, q, hk, _⟩ := h.ker
  have hn := lg.agr.same.n
  have h6 := lg.fit.n6
  have hu := hk.ti.uni hk.ok.wf
  by_cases hb : l < 0 ∨ (M.n : Int) - 2 < l
  · unfold MV.freeB MV.freeC
    rw [if_pos hb, if_pos hb]
    exact docfree_bad m M p _ l w h.mod lg.fit hb
  · obtain ⟨j, rfl⟩ : ∃ j : Nat, l = (j : Int) := ⟨l.toNat, by omega⟩
    unfold MV.freeB MV.freeC
    rw [if_neg hb, if_neg hb]
    have hol := hk.ok.ord.pm.ol
    obtain ⟨u, hu0⟩ : ∃ u, K.order[j]? = some u := ⟨_, List.getElem?_eq_getElem (by omega)⟩
    obtain ⟨x, hx0⟩ : ∃ x, K.order[j + 1]? = some x := ⟨_, List.getElem?_eq_getElem (by omega)⟩
    have hu1 : M.order[j]? = some u := by rw [lg.agr.same.od]; exact hu0
    have hx1 : M.order[j + 1]? = some x := by rw [lg.agr.same.od]; exact hx0
    rw [Int.toNat_natCast, getD_of (lev_at hu1), getD_of hu1, getD_of hx1]
    refine docfree_spec m M p _ j u x _ w h.mod h.z lg.fit (by omega) hx1 (lev_at hu1) fun t ht => ?_
    rw [lg.agr.same.od] at ht
    obtain ⟨r, r2, rt, re, rv⟩ := (lg.agr.level hk.ok hu (by omega) hu0).1 ht
    have tok : t.Ok ∧ t.n = K.vars := by rw [← re]; exact KV.tab_ok (by omega) r
    refine ⟨by rw [tok.2, hn], ?_⟩
    have h1 := lg.agr.same.top hk.ok hu tok.1 tok.2 ⟨rt, fun y => by rw [← re, hk.ok.tab_fn rt]⟩
    obtain ⟨pp, v, hpp, hpt, hpv, _⟩ := hk.ok.wf.node_at r2 rt
    have hvu : v = u := by rw [← rv]; simp [KV.vof, hpp, hpv]
    rw [KV.vr_at hpp, hpv, hvu] at h1
    cases e : M.top t with
    | none => rw [e] at h1; simp [topI] at h1
    | some z => rw [e] at h1; simp [topI] at h1; rw [show z = u by omega]

/-- the model's matrix -/
def MV.mat (M : MV) : List Int := (M.tabs.map supT).foldl (matRow M.n) (List.replicate M.n 0)
theorem MV.mat_ok {M : MV} (h : M.Fit) : AllU M.mat ∧ M.mat.length = M.n := by
  have h6 := h.n6
  obtain ⟨h1, h2, _⟩ := mat_bits (n := M.n) (by omega) (M.tabs.map supT) (AllU.zeros M.n) (by simp) (fun s hs => by
    obtain ⟨t, ht, rfl⟩ := List.mem_map.1 hs
    exact (supT_bits (by have := (h.tn t ht).2; omega)).1)
  exact ⟨h1, h2⟩

theorem matrix_laid {w : World} {b m : Nat} {rv tv : Value} {K : KV} {F : List Nat} {M : MV} {p : MPtr} {refs : List Nat} {tabs : List TV} (h : WMem w b m rv tv K F M p refs tabs) (lg : WLog K M refs tabs) :
    Calls Tryz.prog 41 #[.pointer (some ⟨b, 0, none⟩)] w fun e w' => ∃ g : Nat, e = .returned (.slice (some ⟨g, 0, none⟩) M.n M.n) ∧ MatR w g M.n M.mat w' := by
  obtain ⟨T, q, hk, _⟩ := h.ker
  have hn := lg.agr.same.n
  refine (matrix_spec b K T q w hk).mono fun e w' P => ?_
  obtain ⟨g, ss, rfl, hS, hM⟩ := P
  rw [lg.agr.matrix hk.ok (hk.ti.uni hk.ok.wf) hS, ← hn] at hM
  rw [← hn]
  exact ⟨g, rfl, hM⟩

theorem groups_laid {w : World} {b m : Nat} {rv tv : Value} {K : KV} {F : List Nat} {M : MV} {p : MPtr} {refs : List Nat} {tabs : List TV} (h : WMem w b m rv tv K F M p refs tabs) (lg : WLog K M refs tabs) :
    Calls Tryz.prog 42 #[.pointer (some ⟨b, 0, none⟩)] w fun e w' => ∃ (lv : Value) (d : Int) (gs : List Int), e = .returned lv ∧ GrS M.mat M.n M.n d gs ∧ w'.ownsRow w.heap.size 65 1 lv gs.length (flatU gs) ∧ Upd [] w w' := by
  obtain ⟨T, q, hk, _⟩ := h.ker
  have hn := lg.agr.same.n
  refine (groups_spec b K T q w hk).mono fun e w' P => ?_
  obtain ⟨lv, ss, d, gs, rfl, hS, hG, hr, hU⟩ := P.ex
  rw [lg.agr.matrix hk.ok (hk.ti.uni hk.ok.wf) hS, ← hn] at hG
  exact ⟨lv, d, gs, rfl, hG.grs (MV.mat_ok lg.fit).1, hr, hU⟩
end Go.Proofs.YtnenhecnkidnpaaGreat


/- The support of a table: walked. -/
namespace Go.Proofs.YtnenhecnkidnpaaGreat
open Go.RowKit Go.Maps Go.ChangeMaps Go.WideShapes

theorem supN_lt64 {t : TV} {k : Nat} (hk : k < 64) : IntKind.u64.wrap ((supN t k : Int) + IntKind.u64.wrap (2 ^ k)) = ((supN t k + 2 ^ k : Nat) : Int) := by
  have h1 := (supN_bits t k).1
  have h2 : (2 : Nat) ^ (k + 1) ≤ 2 ^ 64 := Nat.pow_le_pow_right (by omega) hk
  have h3 : (2 : Nat) ^ (k + 1) = 2 * 2 ^ k := by rw [Nat.pow_succ]; omega
  have e : ∀ n : Int, IntKind.u64.wrap n = n % 18446744073709551616 := fun _ => rfl
  have e2 : ((2 : Int) ^ k) = ((2 ^ k : Nat) : Int) := by push_cast; rfl
  rw [e, e, e2]
  generalize (2 : Nat) ^ k = z at *
  omega

set_option maxRecDepth 100000 in
set_option maxHeartbeats 1600000 in
theorem sup5_spec (Z : List Nat) (c : Value) (t : TV) (w : World) (h : TIn w Z c t) (hZ : ∀ k, k ∈ Z → k < w.heap.size) (hn : t.n ≤ 6) :
    Calls Tryz.prog 100 #[tabV t c] w fun e w' => e = .returned (.int .u64 (supT t)) ∧ Upd [] w w' := by
  obtain ⟨fa, ca, hca, _⟩ := row_nil_len h.row
  subst hca
  have HD : Hid (∀ (x : World) (v : Nat), Upd [] w x → v < t.n → Calls Tryz.prog 152 #[tabV t (.slice fa t.ws.length ca), .int .i64 v] x fun e w' => e = .returned (.bool (depT t v)) ∧ Upd [] x w') := fun x v u hv =>
    depends_spec Z _ t v x (h.keep0 u) (fun k hk => Nat.lt_of_lt_of_le (hZ k hk) u.size) hv (by omega)
  have HU0 := Lib.hid ((Upd.refl [] w).alloc (.cells #[.int .i64 t.n, .slice fa t.ws.length ca] 72 (0, 0)))
  have HB := Lib.hid (boxT w (.int .i64 t.n) (.slice fa t.ws.length ca))
  have HE : Hid (((supN t t.n : Nat) : Int) = supT t) := rfl
  unfold tabV at HD ⊢
  generalize t.ws.length = L at *
  generalize t.n = n at *
  obtain ⟨b0, b1⟩ := HB.out
  clear h hZ
  go_enter Tryz.func100, Tryz.ntmps100
  go_wp2_with fail
  go_loopg [3, 4] n (fun gg s3 s4 wr => ∃ v : Nat, n - v = gg ∧ v ≤ n ∧ s3 = .int .u64 (supN t v : Nat) ∧ s4 = .int .i64 v ∧ Upd [] (w.alloc (.cells #[.int .i64 n, .slice fa L ca] 72 (0, 0))) wr)
  case atStart => exact ⟨0, by omega, by omega, rfl, rfl, Upd.refl _ _⟩
  case round =>
    obtain ⟨v, rfl, hv, rfl, rfl, hU⟩ := hrel
    clear b0 b1
    obtain ⟨y0, y1⟩ := boxT_keep hU HB.out
    have HU := Lib.hid hU
    clear hU
    by_cases hlt : v < n
    · have hvi : (v : Int) < (n : Int) := by omega
      have hv64 : v < 64 := by omega
      have HAD := Lib.hid (supN_lt64 (t := t) hv64)
      have HSC := Lib.hid (supN_succ t v)
      go_wp2_with fail
      refine (HD.out wr v (HU0.out.trans HU.out) hlt).mono ?_
      rintro e w3 ⟨rfl, hu⟩
      have HU3 := Lib.hid (HU.out.trans hu)
      clear hu
      cases hd : depT t v with
      | true =>
        rw [hd, if_pos rfl] at HSC
        clear hd
        go_wp2_with fail
        go_roundg (n - (v + 1))
        case measure => omega
        case rel => exact ⟨v + 1, rfl, by omega, by rw [HSC.out, ← HAD.out], by simp, HU3.out⟩
      | false =>
        rw [hd] at HSC
        clear hd
        go_wp2_with fail
        go_roundg (n - (v + 1))
        case measure => omega
        case rel => exact ⟨v + 1, rfl, by omega, by rw [HSC.out]; rfl, by simp, HU3.out⟩
    · obtain rfl : v = n := by omega
      have hvi : ¬ ((v : Int) < (v : Int)) := by omega
      go_wp2_with fail
      go_ret
      exact ⟨by first | rfl | (rw [HE.out]; rfl), HU0.out.trans HU.out⟩
end Go.Proofs.YtnenhecnkidnpaaGreat

