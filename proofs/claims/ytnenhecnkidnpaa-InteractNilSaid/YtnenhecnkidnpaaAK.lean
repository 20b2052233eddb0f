/- The recursion: its steps put together. -/
import Derived.Test.YtnenhecnkidnpaaAH
namespace Go.Proofs.Ytnenhecnkidnpaa
open Go.RowKit Go.Maps Go.ChangeMaps Go.WideShapes

/-- what stands when both answers are there -/
structure Both (K0 K2 : KV) (L : Bool → Bool → Bool → Bool) (n f g h r1 r2 : Nat) (M2 : List Nat) : Prop where
  t1 : K2.A.tk r1 = true
  t2 : K2.A.tk r2 = true
  l1 : K2.lev n < K2.dep r1
  l2 : K2.lev n < K2.dep r2
  hn : n < K2.vars

theorem step_both {K0 K K1 K2 : KV} {L : Bool → Bool → Bool → Bool} {S : ((Nat → Bool) → Bool) → Prop} {n f g h r1 r2 f0 g0 h0 f1 g1 h1 : Nat} {M M1 M2 : List Nat} (hk : K.Ok) (hk1 : K1.Ok) (hn : n < K.vars) (hA : AskQ K f g h)
    (B0 : Below3 K L n f g h false f0 g0 h0) (B1 : Below3 K L n f g h true f1 g1 h1) (S1 : StepR K0 K L S f0 g0 h0 M r1 0 K1 M1) (S2 : StepR K0 K1 L S f1 g1 h1 M1 r2 0 K2 M2) : Both K0 K2 L n f g h r1 r2 M2 := by
  have G1 : Good K0 L f0 g0 h0 M1 K1 r1 := by rcases S1.ans with ⟨_, h⟩ | ⟨h, _⟩; exact h; omega
  have G2 : Good K0 L f1 g1 h1 M2 K2 r2 := by rcases S2.ans with ⟨_, h⟩ | ⟨h, _⟩; exact h; omega
  have B0' := B0.ext hA S1.ext hk.wf
  have B1' := (B1.ext hA S1.ext hk.wf).ext (hA.ext S1.ext) S2.ext hk1.wf
  have G1' := G1.ext S2.ext hk1.wf S2.sub B0'.ask.t0 B0'.ask.t1 B0'.ask.t2
  have B0'' := B0'.ext (hA.ext S1.ext) S2.ext hk1.wf
  exact ⟨G1'.tk, G2.tk, Nat.lt_of_lt_of_le B0''.dep G1'.dep, Nat.lt_of_lt_of_le B1'.dep G2.dep, by rw [S2.ext.vr, S1.ext.vr]; exact hn⟩

theorem step_all {K0 K K1 K2 K3 : KV} {L : Bool → Bool → Bool → Bool} {S : ((Nat → Bool) → Bool) → Prop} {n f g h r1 r2 r f0 g0 h0 f1 g1 h1 : Nat} {code : Int} {M M1 M2 M3 : List Nat} (hk : K.Ok) (hk1 : K1.Ok) (hk2 : K2.Ok) (hk3 : K3.Ok) (hu : K2.Uni) (hn : n < K.vars) (hd : K.dep3 f g h = K.lev n) (hA : AskQ K f g h)
    (hS : S (K.fun3 L f g h)) (B0 : Below3 K L n f g h false f0 g0 h0) (B1 : Below3 K L n f g h true f1 g1 h1) (S1 : StepR K0 K L S f0 g0 h0 M r1 0 K1 M1) (S2 : StepR K0 K1 L S f1 g1 h1 M1 r2 0 K2 M2) (N : NodeR K2 n r1 r2 M2 r code K3 M3) :
    StepR K0 K L S f g h M r code K3 M3 := by
  have G1 : Good K0 L f0 g0 h0 M1 K1 r1 := by rcases S1.ans with ⟨_, h⟩ | ⟨h, _⟩; exact h; omega
  have G2 : Good K0 L f1 g1 h1 M2 K2 r2 := by rcases S2.ans with ⟨_, h⟩ | ⟨h, _⟩; exact h; omega
  have A1 := hA.ext S1.ext
  have A2 := A1.ext S2.ext
  have B0' := B0.ext hA S1.ext hk.wf
  have B1' := (B1.ext hA S1.ext hk.wf).ext A1 S2.ext hk1.wf
  have G1' := G1.ext S2.ext hk1.wf S2.sub B0'.ask.t0 B0'.ask.t1 B0'.ask.t2
  have B0'' := B0'.ext A1 S2.ext hk1.wf
  have E := S1.ext.trans S2.ext
  have hS2 : S (K2.fun3 L f g h) := by
    have e : K2.fun3 L f g h = K.fun3 L f g h := by funext x; exact E.fun3 hk.wf hA.t0 hA.t1 hA.t2 x
    rw [e]; exact hS
  have hd2 : K2.dep3 f g h = K2.lev n := by rw [E.dep3 hA.t0 hA.t1 hA.t2, E.lev]; exact hd
  have R := node_step hk2 hu hk3 S2.run A2 (by rw [E.vr]; exact hn) hd2 B0'' B1' G1' G2 hS2 N
  exact ⟨R.run, E.trans R.ext, fun x hx => R.sub x (S2.sub x (S1.sub x hx)), R.ans⟩

theorem step_bad1 {K0 K K1 : KV} {L : Bool → Bool → Bool → Bool} {S : ((Nat → Bool) → Bool) → Prop} {f g h f0 g0 h0 r1 : Nat} {M M1 : List Nat} (S1 : StepR K0 K L S f0 g0 h0 M r1 9 K1 M1) : StepR K0 K L S f g h M 0 9 K1 M1 :=
  ⟨S1.run, S1.ext, S1.sub, .inr ⟨rfl, by rcases S1.ans with ⟨h, _⟩ | ⟨_, h⟩; omega; exact h⟩⟩

theorem step_bad2 {K0 K K1 K2 : KV} {L : Bool → Bool → Bool → Bool} {S : ((Nat → Bool) → Bool) → Prop} {f g h f0 g0 h0 f1 g1 h1 r1 r2 : Nat} {c1 : Int} {M M1 M2 : List Nat} (S1 : StepR K0 K L S f0 g0 h0 M r1 c1 K1 M1) (S2 : StepR K0 K1 L S f1 g1 h1 M1 r2 9 K2 M2) : StepR K0 K L S f g h M 0 9 K2 M2 :=
  ⟨S2.run, S1.ext.trans S2.ext, fun x hx => S2.sub x (S1.sub x hx), .inr ⟨rfl, by rcases S2.ans with ⟨h, _⟩ | ⟨_, h⟩; omega; exact h⟩⟩

theorem sub_trans {S S1 S2 : List Nat} {w w1 : World} (h : Sub S w S1) (k : Sub S1 w1 S2) (hs : w.heap.size ≤ w1.heap.size) : Sub S w S2 := fun x hx => by
  rcases k x hx with h1 | h1
  · exact h x h1
  · right; omega

theorem run_sub {mb wb b : Nat} {q q' : KPtr} {lvv mv mv' : Value} {w : World} (h : Sub (wkF wb b q lvv mv) w (wkF wb b q' lvv mv')) : Sub (runF mb wb b q lvv mv) w (runF mb wb b q' lvv mv') := fun k hk => by
  rcases List.mem_cons.1 hk with rfl | hk
  · exact .inl (by simp [runF])
  · rcases h k hk with h | h
    · exact .inl (List.mem_cons_of_mem _ h)
    · exact .inr h

theorem NodeR.ext {K K' : KV} {v lo hi r : Nat} {code : Int} {M M' : List Nat} (hk : K.Ok) (N : NodeR K v lo hi M r code K' M') : K.Ext K' ∧ ∀ x, x ∈ M → x ∈ M' := by
  cases N with
  | same => exact ⟨.refl K, fun _ h => h⟩
  | old _ ha hm => exact ⟨(hk.kept ha.tk hm).2.ext, fun x hx => List.mem_append.2 (.inl hx)⟩
  | full => exact ⟨.refl K, fun _ h => h⟩
  | nodes => exact ⟨.refl K, fun _ h => h⟩
  | new _ _ hm => exact ⟨hm.ext, fun x hx => List.mem_append.2 (.inl hx)⟩

theorem NodeR.lt {K K' : KV} {v lo hi r : Nat} {code : Int} {M M' : List Nat} (hk : K.Ok) (hk' : K'.Ok) (hl : lo ≤ 4294967295) (N : NodeR K v lo hi M r code K' M') : r ≤ 4294967295 := by
  cases N with
  | same => exact hl
  | old _ ha _ => have := ha.lt hk.wf; omega
  | full _ ha _ => have := ha.lt hk.wf; omega
  | nodes => omega
  | new _ _ hm =>
    have : K'.A.tk r = true := by rw [hm.tk]; simp
    have := hk'.ref_lt this; omega
end Go.Proofs.Ytnenhecnkidnpaa
