/- What a recursion over three functions makes: the plain side. -/
import Derived.Test.YtnenhecnkidnpaaAT
namespace Go.Proofs.Ytnenhecnkidnpaa
open Go.RowKit Go.Maps Go.ChangeMaps Go.WideShapes

/-- A question as a key. -/
def qk (f g h : Nat) : Lit := .string (keyBytes [.int .u32 f, .int .u32 g, .int .u32 h])
theorem quesKeyed : Keyed Try.prog 82 := Keyed.of_law (deep_law_gate laidOut (of_decide_eq_true (by kernel_rfl)) (of_decide_eq_true (by kernel_rfl)) (by kernel_rfl) (by kernel_rfl))
theorem qk_of {f g h : Nat} (h0 : f ≤ 4294967295) (h1 : g ≤ 4294967295) (h2 : h ≤ 4294967295) :
    keyOf Try.prog 82 (.agg #[.int .u32 f, .int .u32 g, .int .u32 h]) = some (qk f g h) := by
  have hk : Try.prog.keyType 82 = true := by kernel_rfl
  obtain ⟨m, hm⟩ : ∃ m, Try.prog.types.size = m + 1 := ⟨Try.prog.types.size - 1, by have : 0 < Try.prog.types.size := of_decide_eq_true (by kernel_rfl); omega⟩
  have c40 : Try.prog.cellsOf 27 = 1 := by kernel_rfl
  have c44 : Try.prog.cellsOf 82 = 3 := by kernel_rfl
  have kl : Try.prog.keyLits (m + 2) 82 [.int .u32 f, .int .u32 g, .int .u32 h] = some [.int .u32 f, .int .u32 g, .int .u32 h] := by
    unfold Program.keyLits
    rw [Try.underlying82]
    simp only [c44]
    simp [c40, List.range_succ, kl_int Try.underlying27 m (wfR h0), kl_int Try.underlying27 m (wfR h1), kl_int Try.underlying27 m (wfR h2)]
  have hf : Value.formed Try.prog 82 (.agg #[.int .u32 f, .int .u32 g, .int .u32 h]) = true := by
    simp [Value.formed, Try.underlying82, c44]
  rw [keyOf, Try.underlying82]
  show (if (Try.prog.keyType 82 && Value.formed Try.prog 82 (.agg #[.int .u32 f, .int .u32 g, .int .u32 h])) = true then Option.map (fun ls => Lit.string (keyBytes ls)) (Try.prog.keyLits (Try.prog.types.size + 1) 82 [.int .u32 f, .int .u32 g, .int .u32 h]) else none) = _
  rw [hk, hf, hm]
  rw [Bool.and_self, if_pos rfl]
  show Option.map (fun ls => Lit.string (keyBytes ls)) (Try.prog.keyLits (m + 2) 82 [.int .u32 f, .int .u32 g, .int .u32 h]) = _
  rw [kl]
  rfl
theorem qk_inj {f g h f' g' h' : Nat} (h0 : f ≤ 4294967295) (h1 : g ≤ 4294967295) (h2 : h ≤ 4294967295) (h0' : f' ≤ 4294967295) (h1' : g' ≤ 4294967295) (h2' : h' ≤ 4294967295) (e : qk f g h = qk f' g' h') : f = f' ∧ g = g' ∧ h = h' := by
  have h := quesKeyed.inj (qk_of h0 h1 h2) (by rw [e]; exact qk_of h0' h1' h2')
  simp only [Value.agg.injEq, Array.mk.injEq, List.cons.injEq, Value.int.injEq, true_and, and_true] at h
  omega
theorem qk_isKey (f g h : Nat) : WideAt.IsKeyLit (qk f g h) := trivial

/-- the function asked for -/
def KV.fun3 (K : KV) (L : Bool → Bool → Bool → Bool) (f g h : Nat) (x : Nat → Bool) : Bool := L (K.den f x) (K.den g x) (K.den h x)
def KV.dep3 (K : KV) (f g h : Nat) : Nat := min (K.dep f) (min (K.dep g) (K.dep h))
/-- the variables above a level as a says -/
def KV.mix (K : KV) (l : Nat) (a x : Nat → Bool) : Nat → Bool := fun v => if v < K.vars ∧ K.lev v < l then a v else x v
/-- g is what is left of t when the variables above some level are known -/
def KV.SubN (K : KV) (t g : (Nat → Bool) → Bool) : Prop := ∃ (l : Nat) (a : Nat → Bool), ∀ x, g x = t (K.mix l a x)

theorem KV.Ext.mix {K K' : KV} (h : K.Ext K') (l : Nat) (a x : Nat → Bool) : K'.mix l a x = K.mix l a x := by
  funext v; simp [KV.mix, h.vr, h.lev]

theorem KV.Ext.fun3 {K K' : KV} {P : List Nat} (h : K.Ext K') (hw : K.Wf P) {L : Bool → Bool → Bool → Bool} {f g k : Nat} (h0 : K.A.tk f = true) (h1 : K.A.tk g = true) (h2 : K.A.tk k = true) (x : Nat → Bool) : K'.fun3 L f g k x = K.fun3 L f g k x := by
  simp [KV.fun3, h.den hw x h0, h.den hw x h1, h.den hw x h2]

theorem KV.Ext.dep3 {K K' : KV} (h : K.Ext K') {f g k : Nat} (h0 : K.A.tk f = true) (h1 : K.A.tk g = true) (h2 : K.A.tk k = true) : K'.dep3 f g k = K.dep3 f g k := by
  simp [KV.dep3, h.dep h0, h.dep h1, h.dep h2]

/-- the state of the recursion: K0 when it began, M what it has made, S what it may make -/
structure RunS (K0 : KV) (S : ((Nat → Bool) → Bool) → Prop) (M : List Nat) (K : KV) : Prop where
  ext : K0.Ext K
  hd : ∀ x, K.hold x = K0.hold x + M.count x
  tr : M ≠ [] → K.trail = []
  nil : M = [] → K = K0
  new : ∀ x, K.A.tk x = true → K0.A.tk x = false → S (K.den x)

theorem RunS.start (K0 : KV) (S : ((Nat → Bool) → Bool) → Prop) : RunS K0 S [] K0 :=
  ⟨.refl K0, fun x => by simp, fun h => absurd rfl h, fun _ => rfl, fun x h1 h2 => by rw [h1] at h2; cases h2⟩

/-- an answer of the recursion -/
structure Good (K0 : KV) (L : Bool → Bool → Bool → Bool) (f g h : Nat) (M : List Nat) (K : KV) (r : Nat) : Prop where
  tk : K.A.tk r = true
  den : ∀ x, K.den r x = K.fun3 L f g h x
  dep : K.dep3 f g h ≤ K.dep r
  got : r < 2 ∨ r ∈ M ∨ K0.hold r = 65535

theorem Good.ext {K0 K K' : KV} {L : Bool → Bool → Bool → Bool} {f g h r : Nat} {M M' : List Nat} {P : List Nat} (G : Good K0 L f g h M K r) (e : K.Ext K') (hw : K.Wf P) (hm : ∀ x, x ∈ M → x ∈ M') (h0 : K.A.tk f = true) (h1 : K.A.tk g = true) (h2 : K.A.tk h = true) : Good K0 L f g h M' K' r := by
  refine ⟨e.tk G.tk, fun x => ?_, ?_, G.got.imp_right (Or.imp_left (hm _))⟩
  · rw [e.den hw x G.tk, e.fun3 hw h0 h1 h2, G.den]
  · rw [e.dep3 h0 h1 h2, e.dep G.tk]; exact G.dep

/-- no room: all places are taken, and a function is wanted that is not there -/
def NoFit (K0 : KV) (S : ((Nat → Bool) → Bool) → Prop) : Prop :=
  ∃ (K : KV) (M : List Nat) (g : (Nat → Bool) → Bool), K.Ok ∧ K.Uni ∧ RunS K0 S M K ∧ K.A.used = K.A.places ∧ S g ∧ ∀ x, K.A.tk x = true → ¬ ∀ y, K.den x y = g y

theorem KV.Ok.ref_lt {K : KV} (hk : K.Ok) {r : Nat} (ht : K.A.tk r = true) : r < 1048576 := by
  by_cases h2 : 2 ≤ r
  · have := hk.wf.tk_lt h2 ht; omega
  · omega

/-- what is known already -/
structure KnownOk (K0 : KV) (L : Bool → Bool → Bool → Bool) (M : List Nat) (K : KV) (D : DM) : Prop where
  im : IsMap D
  dom : ∀ k, Maps.has D k = true → ∃ f g h : Nat, k = qk f g h ∧ f < 1048576 ∧ g < 1048576 ∧ h < 1048576
  ok : ∀ (f g h : Nat), f ≤ 4294967295 → g ≤ 4294967295 → h ≤ 4294967295 → Maps.has D (qk f g h) = true → K.A.tk f = true ∧ K.A.tk g = true ∧ K.A.tk h = true ∧ ∃ r : Nat, r ≤ 4294967295 ∧ (∀ z, D.atKey (qk f g h) z = .lit (.int .u32 r)) ∧ Good K0 L f g h M K r

theorem KnownOk.nil (K0 : KV) (L : Bool → Bool → Bool → Bool) (M : List Nat) (K : KV) : KnownOk K0 L M K (.map []) :=
  ⟨isMap_empty, fun k hh => by simp [Maps.has] at hh, fun f g h _ _ _ hh => by simp [Maps.has] at hh⟩

theorem KnownOk.ext {K0 K K' : KV} {L : Bool → Bool → Bool → Bool} {M M' : List Nat} {P : List Nat} {D : DM} (h : KnownOk K0 L M K D) (e : K.Ext K') (hw : K.Wf P) (hm : ∀ x, x ∈ M → x ∈ M') : KnownOk K0 L M' K' D := by
  refine ⟨h.im, h.dom, fun f g k h0 h1 h2 hh => ?_⟩
  obtain ⟨t0, t1, t2, r, hr, ha, hg⟩ := h.ok f g k h0 h1 h2 hh
  exact ⟨e.tk t0, e.tk t1, e.tk t2, r, hr, ha, hg.ext e hw hm t0 t1 t2⟩

theorem KnownOk.put {K0 K : KV} {L : Bool → Bool → Bool → Bool} {M : List Nat} {D : DM} {f g k r : Nat} (h : KnownOk K0 L M K D) (h0 : f ≤ 4294967295) (h1 : g ≤ 4294967295) (h2 : k ≤ 4294967295) (t0 : K.A.tk f = true) (t1 : K.A.tk g = true) (t2 : K.A.tk k = true) (hr : r ≤ 4294967295) (G : Good K0 L f g k M K r) (hk : K.Ok) :
    KnownOk K0 L M K (D.put (qk f g k) (.lit (.int .u32 r))) := by
  refine ⟨h.im.put _ _, fun k2 hh => ?_, fun f' g' k' a0 a1 a2 hh => ?_⟩
  · by_cases e : k2 = qk f g k
    · exact ⟨f, g, k, e, hk.ref_lt t0, hk.ref_lt t1, hk.ref_lt t2⟩
    · rw [has_put_other e] at hh; exact h.dom k2 hh
  by_cases e : qk f' g' k' = qk f g k
  · obtain ⟨rfl, rfl, rfl⟩ := qk_inj a0 a1 a2 h0 h1 h2 e
    exact ⟨t0, t1, t2, r, hr, fun z => atKey_put_same h.im (qk_isKey _ _ _) _ z, G⟩
  · rw [has_put_other e] at hh
    obtain ⟨u0, u1, u2, s, hs, ha, hg⟩ := h.ok f' g' k' a0 a1 a2 hh
    exact ⟨u0, u1, u2, s, hs, fun z => by rw [atKey_put_other e]; exact ha z, hg⟩

/-! ### the uppermost variable -/

theorem top_spec {K : KV} : ∀ (n : Nat) (l : List PlaceV), l.length = n → (∀ p, p ∈ l → K.orVar p.var) →
    (K.top l = -1 ∧ ∀ p, p ∈ l → p.var = -1) ∨ (∃ m : Nat, K.top l = (m : Int) ∧ m < K.vars ∧ (∃ p, p ∈ l ∧ p.var = (m : Int)) ∧ ∀ p, p ∈ l → p.var = -1 ∨ ∃ k : Nat, p.var = (k : Int) ∧ K.lev m ≤ K.lev k) := by
  intro n
  induction n with
  | zero => intro l hl _; obtain rfl := List.length_eq_zero_iff.1 hl; exact .inl ⟨rfl, by simp⟩
  | succ n ih =>
    intro l hl h
    rcases List.eq_nil_or_concat l with rfl | ⟨l', p, rfl⟩
    · simp at hl
    · rw [List.concat_eq_append] at *
      have hl' : l'.length = n := by simpa using hl
      have h' : ∀ p, p ∈ l' → K.orVar p.var := fun p hp => h p (List.mem_append.2 (.inl hp))
      have hp := h p (List.mem_append.2 (.inr (by simp)))
      rw [top_snoc]
      rcases ih l' hl' h' with ⟨e, ha⟩ | ⟨m, e, hm, ⟨c, hc, hcm⟩, ha⟩
      · rw [e]
        rcases hp with hp | ⟨k, hp, hk⟩
        · left
          refine ⟨by unfold topF; rw [if_neg (by omega)], fun c hc => ?_⟩
          rcases List.mem_append.1 hc with hc | hc
          · exact ha c hc
          · simp at hc; subst hc; exact hp
        · right
          refine ⟨k, by unfold topF; rw [if_pos ⟨by omega, .inl (by omega)⟩]; exact hp, hk, ⟨p, by simp, hp⟩, fun c hc => ?_⟩
          rcases List.mem_append.1 hc with hc | hc
          · exact .inl (ha c hc)
          · simp at hc; subst hc; exact .inr ⟨k, hp, Nat.le_refl _⟩
      · rw [e]
        right
        rcases hp with hp | ⟨k, hp, hk⟩
        · refine ⟨m, by unfold topF; rw [if_neg (by omega)], hm, ⟨c, List.mem_append.2 (.inl hc), hcm⟩, fun d hd => ?_⟩
          rcases List.mem_append.1 hd with hd | hd
          · exact ha d hd
          · simp at hd; subst hd; exact .inl hp
        · by_cases hlt : K.lev k < K.lev m
          · refine ⟨k, by unfold topF; rw [if_pos ⟨by omega, .inr (by rw [hp]; simpa using hlt)⟩]; exact hp, hk, ⟨p, by simp, hp⟩, fun d hd => ?_⟩
            rcases List.mem_append.1 hd with hd | hd
            · rcases ha d hd with h | ⟨j, hj, hjl⟩
              · exact .inl h
              · exact .inr ⟨j, hj, by omega⟩
            · simp at hd; subst hd; exact .inr ⟨k, hp, Nat.le_refl _⟩
          · refine ⟨m, by unfold topF; rw [if_neg (fun ⟨_, h⟩ => h.elim (fun h => by omega) (fun h => hlt (by rw [hp] at h; simpa using h)))], hm, ⟨c, List.mem_append.2 (.inl hc), hcm⟩, fun d hd => ?_⟩
            rcases List.mem_append.1 hd with hd | hd
            · exact ha d hd
            · simp at hd; subst hd; exact .inr ⟨k, hp, by omega⟩

/-- one child of a function, or itself, where its node is of another variable -/
def cofR (v : Int) (p : PlaceV) (f : Nat) (b : Bool) : Nat := if p.var = v then (if b then p.hi else p.lo) else f

theorem cof_ok {K : KV} (hk : K.Ok) {f n : Nat} {p : PlaceV} (hp : K.A.list[f]? = some p) (hpt : p.taken = true) (hn : n < K.vars) (hl : p.var = -1 ∨ ∃ k : Nat, p.var = (k : Int) ∧ K.lev n ≤ K.lev k) (b : Bool) :
    K.A.tk (cofR n p f b) = true ∧ K.lev n < K.dep (cofR n p f b) ∧ (∀ x, K.den (cofR n p f b) x = K.den f (upd x n b)) := by
  have htk : K.A.tk f = true := ArenaV.tk_iff.2 ⟨p, hp, hpt⟩
  have hln := (hk.ord.pm.lo n hn).1
  by_cases h2 : 2 ≤ f
  · obtain ⟨p', v, hp', hpt', hv, hvl, t1, t2, hd⟩ := hk.wf.node_at h2 htk
    rw [hp] at hp'; cases hp'
    have hb := hk.ord.below hk.wf h2 hp hpt
    unfold cofR
    by_cases e : p.var = (n : Int)
    · have env : v = n := by omega
      subst env
      rw [if_pos e]
      cases b with
      | false =>
        refine ⟨t1, by rw [← hd]; exact hb.1, fun x => ?_⟩
        have := KV.den_lo hk.wf hk.ord h2 hp hpt x
        rw [e] at this; exact this.symm
      | true =>
        refine ⟨t2, by rw [← hd]; exact hb.2, fun x => ?_⟩
        have := KV.den_hi hk.wf hk.ord h2 hp hpt x
        rw [e] at this; exact this.symm
    · rw [if_neg e]
      have hlt : K.lev n < K.dep f := by
        rcases hl with hl | ⟨k, hk', hkl⟩
        · omega
        · have ek : k = v := by omega
          subst ek
          have hne : k ≠ n := by intro h; subst h; exact e hk'
          have : K.lev n ≠ K.lev k := fun h => hne (hk.ord.pm.inj hvl hn h.symm)
          omega
      exact ⟨htk, hlt, fun x => (KV.den_upd hk.wf hk.ord htk hn hlt x b).symm⟩
  · have hv : p.var = -1 := by
      match f, h2, hp with
      | 0, _, hp => rw [hk.wf.ok.c0] at hp; cases hp; rfl
      | 1, _, hp => rw [hk.wf.ok.c1] at hp; cases hp; rfl
      | f + 2, h2, _ => omega
    unfold cofR
    rw [if_neg (by omega)]
    have hdc := hk.wf.dep_const (r := f) (by omega)
    have hlt : K.lev n < K.dep f := by omega
    exact ⟨htk, hlt, fun x => (KV.den_upd hk.wf hk.ord htk hn hlt x b).symm⟩
end Go.Proofs.Ytnenhecnkidnpaa
