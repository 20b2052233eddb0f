/- One step of the recursion: the plain side. -/
import Derived.Test.YtnenhecnkidnpaaAQ
namespace Go.Proofs.Ytnenhecnkidnpaa

/-- A function that is live as 'if n then r2 else r1' stands there as that node. -/
theorem KV.node_unique {K : KV} (hk : K.Ok) (hu : K.Uni) {n r1 r2 x : Nat} (hn : n < K.vars) (t1 : K.A.tk r1 = true) (t2 : K.A.tk r2 = true) (l1 : K.lev n < K.dep r1) (l2 : K.lev n < K.dep r2) (hne : r1 ≠ r2) (tx : K.A.tk x = true)
    (he : ∀ y, K.den x y = if y n then K.den r2 y else K.den r1 y) : K.At x n r1 r2 := by
  have can : ∀ {a b : Nat}, K.A.tk a = true → K.A.tk b = true → (∀ y, K.den a y = K.den b y) → a = b := fun ha hb h => KV.canon hk.wf hk.ord hu _ _ _ ha hb (Nat.le_refl _) h
  have e0 : ∀ y, K.den x (upd y n false) = K.den r1 y := fun y => by
    rw [he, upd_self]; simp; exact KV.den_upd hk.wf hk.ord t1 hn l1 y false
  have e1 : ∀ y, K.den x (upd y n true) = K.den r2 y := fun y => by
    rw [he, upd_self]; simp; exact KV.den_upd hk.wf hk.ord t2 hn l2 y true
  have far : K.lev n < K.dep x → False := fun h => by
    refine hne (can t1 t2 fun y => ?_)
    rw [← e0, ← e1, KV.den_upd hk.wf hk.ord tx hn h, KV.den_upd hk.wf hk.ord tx hn h]
  have hln := (hk.ord.pm.lo n hn).1
  by_cases h2 : 2 ≤ x
  · obtain ⟨p, u, hp, hpt, hv, hul, c1, c2, hd⟩ := hk.wf.node_at h2 tx
    have hb := hk.ord.below hk.wf h2 hp hpt
    by_cases hlt : K.lev u < K.lev n
    · exfalso
      have ind : ∀ b y, K.den x (upd y u b) = K.den x y := fun b y => by
        have d1 := KV.den_upd hk.wf hk.ord t1 hul (show K.lev u < K.dep r1 by omega) y b
        have d2 := KV.den_upd hk.wf hk.ord t2 hul (show K.lev u < K.dep r2 by omega) y b
        have en : upd y u b n = y n := upd_ne y b (by rintro rfl; omega)
        rw [he, he, en, d1, d2]
      refine hk.ord.ne x p h2 hp hpt (can c1 c2 fun y => ?_)
      have a := KV.den_lo hk.wf hk.ord h2 hp hpt y
      have b := KV.den_hi hk.wf hk.ord h2 hp hpt y
      rw [show p.var.toNat = u by omega] at a b
      rw [← a, ← b, ind, ind]
    · have : ¬ K.lev n < K.lev u := fun h => far (by omega)
      have eun : u = n := hk.ord.pm.inj hul hn (by omega)
      subst eun
      refine ⟨h2, p, hp, hpt, hv, can c1 t1 fun y => ?_, can c2 t2 fun y => ?_⟩
      · have a := KV.den_lo hk.wf hk.ord h2 hp hpt y
        rw [show p.var.toNat = u by omega] at a
        rw [← a, e0]
      · have a := KV.den_hi hk.wf hk.ord h2 hp hpt y
        rw [show p.var.toNat = u by omega] at a
        rw [← a, e1]
  · exact (far (by rw [hk.wf.dep_const (by omega)]; exact hln)).elim

theorem KV.At.den {K : KV} (hk : K.Ok) {r n lo hi : Nat} (h : K.At r n lo hi) (x : Nat → Bool) : K.den r x = if x n then K.den hi x else K.den lo x := by
  obtain ⟨h2, p, hp, hpt, e1, e2, e3⟩ := h
  rw [KV.den_node hk.wf hk.ord h2 hp hpt, e1, e2, e3, Int.toNat_natCast]

theorem KV.At.dep {K : KV} {r n lo hi : Nat} (h : K.At r n lo hi) : K.dep r = K.lev n := by
  obtain ⟨h2, p, hp, hpt, e1, e2, e3⟩ := h
  simp [KV.dep, hp, e1]

theorem upd_id (x : Nat → Bool) (n : Nat) : upd x n (x n) = x := by funext v; unfold upd; split <;> simp_all

structure AskQ (K : KV) (f g h : Nat) : Prop where
  t0 : K.A.tk f = true
  t1 : K.A.tk g = true
  t2 : K.A.tk h = true

theorem AskQ.ext {K K' : KV} {f g h : Nat} (a : AskQ K f g h) (e : K.Ext K') : AskQ K' f g h := ⟨e.tk a.t0, e.tk a.t1, e.tk a.t2⟩

/-- the two questions below a question -/
structure Below3 (K : KV) (L : Bool → Bool → Bool → Bool) (n f g h : Nat) (b : Bool) (f' g' h' : Nat) : Prop where
  ask : AskQ K f' g' h'
  dep : K.lev n < K.dep3 f' g' h'
  den : ∀ x, K.fun3 L f' g' h' x = K.fun3 L f g h (upd x n b)

theorem Below3.ext {K K' : KV} {L : Bool → Bool → Bool → Bool} {n f g h f' g' h' : Nat} {b : Bool} {P : List Nat} (B : Below3 K L n f g h b f' g' h') (q : AskQ K f g h) (e : K.Ext K') (hw : K.Wf P) : Below3 K' L n f g h b f' g' h' :=
  ⟨B.ask.ext e, by rw [e.lev, e.dep3 B.ask.t0 B.ask.t1 B.ask.t2]; exact B.dep, fun x => by rw [e.fun3 hw B.ask.t0 B.ask.t1 B.ask.t2, e.fun3 hw q.t0 q.t1 q.t2]; exact B.den x⟩

theorem below3_of {K : KV} (hk : K.Ok) (L : Bool → Bool → Bool → Bool) {n f g h : Nat} {p0 p1 p2 : PlaceV} (a0 : K.A.list[f]? = some p0 ∧ p0.taken = true) (a1 : K.A.list[g]? = some p1 ∧ p1.taken = true) (a2 : K.A.list[h]? = some p2 ∧ p2.taken = true) (hn : n < K.vars)
    (hl : ∀ p, p ∈ [p0, p1, p2] → p.var = -1 ∨ ∃ k : Nat, p.var = (k : Int) ∧ K.lev n ≤ K.lev k) (b : Bool) : Below3 K L n f g h b (cofR n p0 f b) (cofR n p1 g b) (cofR n p2 h b) := by
  have c0 := cof_ok hk a0.1 a0.2 hn (hl p0 (by simp)) b
  have c1 := cof_ok hk a1.1 a1.2 hn (hl p1 (by simp)) b
  have c2 := cof_ok hk a2.1 a2.2 hn (hl p2 (by simp)) b
  refine ⟨⟨c0.1, c1.1, c2.1⟩, ?_, fun x => by simp [KV.fun3, c0.2.2, c1.2.2, c2.2.2]⟩
  have := c0.2.1; have := c1.2.1; have := c2.2.1
  simp only [KV.dep3]; omega

theorem dep3_top {K : KV} {n f g h : Nat} {p0 p1 p2 : PlaceV} (a0 : K.A.list[f]? = some p0) (a1 : K.A.list[g]? = some p1) (a2 : K.A.list[h]? = some p2) (hp : ∃ p, p ∈ [p0, p1, p2] ∧ p.var = (n : Int)) : K.dep3 f g h ≤ K.lev n := by
  obtain ⟨p, hm, hv⟩ := hp
  have e : ∀ {r : Nat} {p : PlaceV}, K.A.list[r]? = some p → p.var = (n : Int) → K.dep r = K.lev n := fun h1 h2 => by simp [KV.dep, h1, h2]
  simp only [List.mem_cons, List.not_mem_nil, or_false] at hm
  rcases hm with rfl | rfl | rfl
  · have := e a0 hv; simp only [KV.dep3]; omega
  · have := e a1 hv; simp only [KV.dep3]; omega
  · have := e a2 hv; simp only [KV.dep3]; omega

/-- all constant: the answer is the leaf's -/
theorem all_const {K : KV} (hk : K.Ok) {f : Nat} {p : PlaceV} (a : K.A.list[f]? = some p ∧ p.taken = true) (hv : p.var = -1) : f < 2 := by
  by_cases h2 : 2 ≤ f
  · obtain ⟨p', v, hp', _, hv', _⟩ := hk.wf.node_at h2 (ArenaV.tk_iff.2 ⟨p, a.1, a.2⟩)
    rw [a.1] at hp'; cases hp'; omega
  · omega

theorem good_leaf {K0 K : KV} (hk : K.Ok) (L : Bool → Bool → Bool → Bool) {f g h : Nat} {M : List Nat} (h0 : f < 2) (h1 : g < 2) (h2 : h < 2) : Good K0 L f g h M K (if L (f == 1) (g == 1) (h == 1) then 1 else 0) := by
  have hr : (if L (f == 1) (g == 1) (h == 1) then 1 else 0) < 2 := by split <;> omega
  refine ⟨hk.tk_const hr, fun x => ?_, ?_, .inl hr⟩
  · rw [K.den_const hr]
    simp only [KV.fun3, K.den_const h0, K.den_const h1, K.den_const h2]
    cases L (f == 1) (g == 1) (h == 1) <;> rfl
  · rw [hk.wf.dep_const hr]
    simp only [KV.dep3, hk.wf.dep_const h0]; omega

/-- where t is asked for -/
def Runs3 (K : KV) (L : Bool → Bool → Bool → Bool) (t : (Nat → Bool) → Bool) (f g h : Nat) : Prop := ∃ (l : Nat) (a : Nat → Bool), l ≤ K.dep3 f g h ∧ ∀ x, K.fun3 L f g h x = t (K.mix l a x)

theorem Runs3.sub {K : KV} {L : Bool → Bool → Bool → Bool} {t : (Nat → Bool) → Bool} {f g h : Nat} (r : Runs3 K L t f g h) : K.SubN t (K.fun3 L f g h) := by
  obtain ⟨l, a, _, e⟩ := r; exact ⟨l, a, e⟩

theorem Runs3.ext {K K' : KV} {L : Bool → Bool → Bool → Bool} {t : (Nat → Bool) → Bool} {f g h : Nat} {P : List Nat} (r : Runs3 K L t f g h) (q : AskQ K f g h) (e : K.Ext K') (hw : K.Wf P) : Runs3 K' L t f g h := by
  obtain ⟨l, a, hl, h⟩ := r
  refine ⟨l, a, by rw [e.dep3 q.t0 q.t1 q.t2]; exact hl, fun x => ?_⟩
  rw [e.fun3 hw q.t0 q.t1 q.t2, e.mix]; exact h x

theorem KV.fun3_same {K : KV} {P : List Nat} (hw : K.Wf P) (ho : K.Ord) (L : Bool → Bool → Bool → Bool) {f g h : Nat} (q : AskQ K f g h) {x y : Nat → Bool} (hx : ∀ v, v < K.vars → K.dep3 f g h ≤ K.lev v → x v = y v) : K.fun3 L f g h x = K.fun3 L f g h y := by
  have d0 : K.dep3 f g h ≤ K.dep f := by simp only [KV.dep3]; omega
  have d1 : K.dep3 f g h ≤ K.dep g := by simp only [KV.dep3]; omega
  have d2 : K.dep3 f g h ≤ K.dep h := by simp only [KV.dep3]; omega
  unfold KV.fun3
  rw [KV.den_same hw ho _ f x y q.t0 (Nat.le_refl _) fun v hv hl => hx v hv (by omega), KV.den_same hw ho _ g x y q.t1 (Nat.le_refl _) fun v hv hl => hx v hv (by omega), KV.den_same hw ho _ h x y q.t2 (Nat.le_refl _) fun v hv hl => hx v hv (by omega)]

theorem Runs3.below {K : KV} (hk : K.Ok) {L : Bool → Bool → Bool → Bool} {t : (Nat → Bool) → Bool} {n f g h f' g' h' : Nat} {b : Bool} (r : Runs3 K L t f g h) (q : AskQ K f g h) (hn : n < K.vars) (hd : K.lev n = K.dep3 f g h) (B : Below3 K L n f g h b f' g' h') : Runs3 K L t f' g' h' := by
  obtain ⟨l, a, hl, e⟩ := r
  refine ⟨K.lev n + 1, fun v => if v < K.vars ∧ K.lev v < l then a v else if v = n then b else false, B.dep, fun x => ?_⟩
  rw [B.den]
  have e2 : K.fun3 L f g h (upd x n b) = K.fun3 L f g h (upd (fun v => if v < K.vars ∧ K.lev v < K.lev n then false else x v) n b) := by
    refine KV.fun3_same hk.wf hk.ord L q fun v hv hlv => ?_
    unfold upd
    split
    · rfl
    · show x v = (if v < K.vars ∧ K.lev v < K.lev n then false else x v)
      rw [if_neg (by omega)]
  rw [e2, e]
  congr 1
  funext v
  unfold KV.mix upd
  by_cases hv : v < K.vars
  · by_cases h1 : K.lev v < l
    · simp [hv, h1]; intro h2; omega
    · by_cases h2 : v = n
      · subst h2; simp [hv, h1]
      · by_cases h3 : K.lev v < K.lev n
        · simp [hv, h1, h2, h3]; omega
        · have h4 : ¬ K.lev v < K.lev n + 1 := fun h => h2 (hk.ord.pm.inj hv hn (by omega))
          simp [hv, h1, h2, h3, h4]
  · have h2 : v ≠ n := by rintro rfl; exact hv hn
    simp [hv, h2]

/-- what one step of the recursion leaves -/
structure StepR (K0 K : KV) (L : Bool → Bool → Bool → Bool) (S : ((Nat → Bool) → Bool) → Prop) (f g h : Nat) (M : List Nat) (r : Nat) (code : Int) (K' : KV) (M' : List Nat) : Prop where
  run : RunS K0 S M' K'
  ext : K.Ext K'
  sub : ∀ x, x ∈ M → x ∈ M'
  ans : (code = 0 ∧ Good K0 L f g h M' K' r) ∨ (code = 9 ∧ NoFit K0 S)

theorem node_step {K0 K K' : KV} {L : Bool → Bool → Bool → Bool} {S : ((Nat → Bool) → Bool) → Prop} {n f g h r1 r2 r f0 g0 h0 f1 g1 h1 : Nat} {code : Int} {M M' : List Nat} (hk : K.Ok) (hu : K.Uni) (hk' : K'.Ok) (R : RunS K0 S M K) (q : AskQ K f g h) (hn : n < K.vars) (hd : K.dep3 f g h = K.lev n)
    (B0 : Below3 K L n f g h false f0 g0 h0) (B1 : Below3 K L n f g h true f1 g1 h1) (G1 : Good K0 L f0 g0 h0 M K r1) (G2 : Good K0 L f1 g1 h1 M K r2) (hS : S (K.fun3 L f g h)) (N : NodeR K n r1 r2 M r code K' M') :
    StepR K0 K L S f g h M r code K' M' := by
  have l1 : K.lev n < K.dep r1 := Nat.lt_of_lt_of_le B0.dep G1.dep
  have l2 : K.lev n < K.dep r2 := Nat.lt_of_lt_of_le B1.dep G2.dep
  have key : ∀ x, K.fun3 L f g h x = if x n then K.den r2 x else K.den r1 x := by
    intro x
    rw [G1.den, G2.den, B0.den, B1.den]
    cases e : x n with
    | false => simp; rw [← e, upd_id]
    | true => simp; rw [← e, upd_id]
  have goodAt : ∀ {K1 : KV} {M1 : List Nat}, K.Ext K1 → K1.Ok → K1.At r n r1 r2 → (r < 2 ∨ r ∈ M1 ∨ K0.hold r = 65535) → Good K0 L f g h M1 K1 r := by
    intro K1 M1 e hk1 ha hg
    refine ⟨ha.tk, fun x => ?_, ?_, hg⟩
    · rw [ha.den hk1, e.fun3 hk.wf q.t0 q.t1 q.t2, key, e.den hk.wf x G1.tk, e.den hk.wf x G2.tk]
    · rw [ha.dep, e.dep3 q.t0 q.t1 q.t2, e.lev, hd]; exact Nat.le_refl _
  cases N with
  | same he =>
    subst he
    refine ⟨R, .refl K, fun _ h => h, .inl ⟨rfl, G1.tk, fun x => ?_, by omega, G1.got⟩⟩
    rw [key]; simp
  | @old _ hne ha hm =>
    obtain ⟨k1, k2⟩ := hk.kept ha.tk hm
    have e := k2.ext
    have hat : (K.keepK r).At r n r1 r2 := by
      obtain ⟨b2, p, hp, rest⟩ := ha
      exact ⟨b2, p, by rw [K.keepK_A]; exact hp, rest⟩
    refine ⟨⟨R.ext.trans e, fun x => ?_, fun _ => k2.tr, fun h => by simp at h, fun x t1 t2 => ?_⟩, e, fun x hx => List.mem_append.2 (.inl hx), .inl ⟨rfl, goodAt e k1 hat (.inr (.inl (by simp)))⟩⟩
    · rw [k2.hd, R.hd, List.count_append, List.count_singleton]
      by_cases ex : x = r
      · subst ex; simp [ha.1]; omega
      · simp [ex, Ne.symm ex]
    · rw [k2.A] at t1
      have := R.new x t1 t2
      have e2 : (K.keepK r).den x = K.den x := by funext y; exact e.den hk.wf y t1
      rw [e2]; exact this
  | @full _ hne ha hm =>
    refine ⟨R, .refl K, fun _ h => h, .inl ⟨rfl, goodAt (.refl K) hk ha ?_⟩⟩
    have := R.hd r
    by_cases h0 : K0.hold r = 65535
    · exact .inr (.inr h0)
    · have hc : 0 < M.count r := by have := hk.wf.hm r; omega
      exact .inr (.inl (List.count_pos_iff.1 hc))
  | nodes hne hno hus =>
    refine ⟨R, .refl K, fun _ h => h, .inr ⟨rfl, K, M, K.fun3 L f g h, hk, hu, R, hus, hS, fun x tx he => ?_⟩⟩
    exact hno x (KV.node_unique hk hu hn G1.tk G2.tk l1 l2 hne tx fun y => by rw [he, key])
  | @new _ _ hne hno hm =>
    have e := hm.ext
    have hat : K'.At r n r1 r2 := ⟨hm.two, _, hm.at_, rfl, rfl, rfl, rfl⟩
    have hgood := goodAt e hk' hat (.inr (.inl (by simp : r ∈ M ++ [r])))
    refine ⟨⟨R.ext.trans e, fun x => ?_, fun _ => hm.tr, fun h => by simp at h, fun x t1 t2 => ?_⟩, e, fun x hx => List.mem_append.2 (.inl hx), .inl ⟨rfl, hgood⟩⟩
    · rw [hm.hd, List.count_append, List.count_singleton]
      have h0 := R.hd r
      have hz : K.hold r = 0 := by
        by_cases hz : 0 < K.hold r
        · have := (hk.wf.ht r hz).2; rw [hm.no] at this; cases this
        · omega
      by_cases ex : x = r
      · subst ex; simp; omega
      · simp [ex, Ne.symm ex]; exact R.hd x
    · rw [hm.tk] at t1
      by_cases ex : x = r
      · subst ex
        have e2 : K'.den x = K.fun3 L f g h := by
          funext y; rw [hgood.den, e.fun3 hk.wf q.t0 q.t1 q.t2]
        rw [e2]; exact hS
      · simp [ex] at t1
        have := R.new x t1 t2
        have e2 : K'.den x = K.den x := by funext y; exact e.den hk.wf y t1
        rw [e2]; exact this

/-- a list of things that are each there so often at most, is so long at most -/
theorem length_le_count : ∀ (n c : Nat) (M : List Nat), (∀ x, x ∈ M → x < n) → (∀ x, M.count x ≤ c) → M.length ≤ n * c
  | 0, c, M, h, _ => by
    match M, h with
    | [], _ => simp
    | x :: _, h => have := h x (by simp); omega
  | n + 1, c, M, h, hc => by
    have e : M.length = (M.filter fun x => x == n).length + (M.filter fun x => !(x == n)).length := by
      rw [← List.countP_eq_length_filter, ← List.countP_eq_length_filter]
      have hh := List.length_eq_countP_add_countP (fun x => x == n) (l := M)
      rw [hh]
      congr 2
      funext a
      cases a == n <;> rfl
    have e1 : (M.filter fun x => x == n).length = M.count n := by rw [List.count, List.countP_eq_length_filter]
    have e2 := length_le_count n c (M.filter fun x => !(x == n)) (fun x hx => by
      have h1 := List.mem_filter.1 hx
      have h2 := h x h1.1
      have h3 : x ≠ n := by simpa using h1.2
      omega) (fun x => Nat.le_trans (List.Sublist.count_le x List.filter_sublist) (hc x))
    have := hc n
    have e3 : (n + 1) * c = n * c + c := by rw [Nat.add_mul]; omega
    omega

theorem RunS.len {K0 K : KV} {S : ((Nat → Bool) → Bool) → Prop} {M : List Nat} (R : RunS K0 S M K) (hk : K.Ok) : M.length ≤ 1099511627775 ∧ ∀ x, x ∈ M → x ≤ 4294967295 := by
  have hc : ∀ x, M.count x ≤ 65535 := fun x => by have := R.hd x; have := hk.wf.hm x; omega
  have hl : ∀ x, x ∈ M → x < 1048576 := fun x hx => by
    have h1 := R.hd x
    have h2 := List.count_pos_iff.2 hx
    have h3 := hk.wf.ht x (by omega)
    have h4 := hk.wf.tk_lt h3.1 h3.2
    omega
  refine ⟨?_, fun x hx => by have := hl x hx; omega⟩
  have := length_le_count 1048576 65535 M hl hc
  omega
end Go.Proofs.Ytnenhecnkidnpaa
