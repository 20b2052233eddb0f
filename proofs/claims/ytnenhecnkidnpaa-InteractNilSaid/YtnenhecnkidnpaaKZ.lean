/- The kernel's questions ahead of a new node: fits, seek. -/
import Derived.Test.YtnenhecnkidnpaaKY
import Derived.Deep.QuietTactic
namespace Go.Proofs.Ytnenhecnkidnpaa
open Go.RowKit Go.Maps Go.ChangeMaps Go.WideShapes

/-- the error of a node that is to be made -/
def KV.fitsE (K : KV) (v : Int) (lo hi : Nat) : Int :=
  if K.isVar v = false then 2 else if K.A.tk lo = false ∨ K.A.tk hi = false then 3 else if lo ≠ hi ∧ ¬ K.lev v.toNat < min (K.dep lo) (K.dep hi) then 4 else 0

/-- a world that is w but for new memory -/
structure Still (w : World) where
  x : World
  u : Upd [] w x

instance (w : World) : Nonempty (Still w) := ⟨⟨w, Upd.refl _ _⟩⟩

/-- Such a region as 'go_quiet' takes, whose calls may make new memory. -/
theorem wp_region_still {P : Program} {id : Nat} {Q : Exit → Act → World → Prop} {a : Act} {w : World} {l : List Oper} (hm : P.follows .mixedOrders = true) (hB : Region.lexB .any l.toArray = true)
    (h : wpQuiet P l.toArray (fun w' => ∃ n : Still w, w' = n.x) (fun a' => ∀ w', (∃ n : Still w, w' = n.x) → Q .normal a' w') l a) : (Code.region id l.toArray true).wp P Q a w :=
  wp_region_quiet (C := fun w' => ∃ n : Still w, w' = n.x) hm hB ⟨⟨_, (Upd.refl [] w).drew⟩, rfl⟩ (by rw [List.toList_toArray]; exact h)

theorem Still.cell {w : World} (n : Still w) {a : Addr} {v : Value} (h : w.cell? a = some v) : n.x.cell? a = some v := (n.u.cell (World.block_lt_of_cell? _ _ h) (by simp)).trans h

set_option maxRecDepth 100000 in
set_option maxHeartbeats 800000 in
theorem fits_spec (b : Nat) (v : Int) (lo hi : Nat) (K : KV) (T : List DM) (q : KPtr) (w : World) (h : KerMem w b K T q) (hw : K.Wf []) (ho : K.Ord) (h1 : lo ≤ 4294967295) (h2 : hi ≤ 4294967295) :
    Calls Try.prog 50 #[.pointer (some ⟨b, 0, none⟩), .int .i64 v, .int .u32 lo, .int .u32 hi] w fun e w' => e = .returned (.int .i64 (K.fitsE v lo hi)) ∧ Upd [] w w' := by
  have HM := Lib.hid h
  have HW := Lib.hid (And.intro hw ho)
  cases hV : K.isVar v with
  | false =>
    have HV := Lib.hid hV
    clear h hw ho hV
    go_enter Try.func50, Try.ntmps50
    go_wp2_with fail
    refine (variable_spec b v K T q w HM.out).mono ?_
    rintro e w1 ⟨rfl, rfl⟩
    rw [HV.out]
    go_wp2_with fail
    go_ret
    exact ⟨by unfold KV.fitsE; rw [if_pos HV.out]; rfl, Upd.refl _ _⟩
  | true =>
    have HV := Lib.hid hV
    have hv0 : ∃ n : Nat, v = (n : Int) ∧ n < K.vars := by
      simp [KV.isVar] at hV
      exact ⟨v.toNat, by omega, by omega⟩
    obtain ⟨n, rfl, hn⟩ := hv0
    cases hl : K.A.tk lo with
    | false =>
      have HL := Lib.hid hl
      clear h hw ho hV hl
      go_enter Try.func50, Try.ntmps50
      go_wp2_with fail
      refine (variable_spec b n K T q w HM.out).mono ?_
      rintro e w1 ⟨rfl, rfl⟩
      rw [HV.out]
      go_wp2_with fail
      refine (live_spec b lo K T q _ HM.out h1).mono ?_
      rintro e w2 ⟨rfl, hu⟩
      rw [HL.out]
      have HU := Lib.hid hu
      clear hu
      go_wp2_with fail
      go_ret
      exact ⟨by unfold KV.fitsE; rw [if_neg (by rw [HV.out]; simp), if_pos (.inl HL.out)]; rfl, HU.out⟩
    | true =>
      have HL := Lib.hid hl
      cases hh : K.A.tk hi with
      | false =>
        have HH := Lib.hid hh
        clear h hw ho hV hl hh
        go_enter Try.func50, Try.ntmps50
        go_wp2_with fail
        refine (variable_spec b n K T q w HM.out).mono ?_
        rintro e w1 ⟨rfl, rfl⟩
        rw [HV.out]
        go_wp2_with fail
        refine (live_spec b lo K T q _ HM.out h1).mono ?_
        rintro e w2 ⟨rfl, hu⟩
        rw [HL.out]
        have HU := Lib.hid hu
        clear hu
        go_wp2_with fail
        refine (live_spec b hi K T q _ (HM.out.upd HU.out (by simp)) h2).mono ?_
        rintro e w3 ⟨rfl, hu⟩
        rw [HH.out]
        have HU2 := Lib.hid (HU.out.trans hu)
        clear hu
        go_wp2_with fail
        go_ret
        exact ⟨by unfold KV.fitsE; rw [if_neg (by rw [HV.out]; simp), if_pos (.inr HH.out)]; rfl, HU2.out⟩
      | true =>
        have HH := Lib.hid hh
        by_cases hlh : lo = hi
        · subst hlh
          clear h hw ho hV hl hh
          go_enter Try.func50, Try.ntmps50
          go_wp2_with fail
          refine (variable_spec b n K T q w HM.out).mono ?_
          rintro e w1 ⟨rfl, rfl⟩
          rw [HV.out]
          go_wp2_with fail
          refine (live_spec b lo K T q _ HM.out h1).mono ?_
          rintro e w2 ⟨rfl, hu⟩
          rw [HL.out]
          have HU := Lib.hid hu
          clear hu
          go_wp2_with fail
          refine (live_spec b lo K T q _ (HM.out.upd HU.out (by simp)) h2).mono ?_
          rintro e w3 ⟨rfl, hu⟩
          rw [HH.out]
          have HU2 := Lib.hid (HU.out.trans hu)
          clear hu
          go_wp2_with fail
          go_quiet (fail)
          go_wp2_with fail
          go_ret
          exact ⟨by unfold KV.fitsE; rw [if_neg (by rw [HV.out]; simp), if_neg (by rw [HL.out]; simp), if_neg (by simp)]; rfl, HU2.out.drewN _⟩
        · have HLH := Lib.hid hlh
          have hd : decide ((lo : Int) = (hi : Int)) = false := by simp; omega
          have hd2 : ¬ ((lo : Int) = (hi : Int)) := by omega
          have hd3 : ((lo : Int) != (hi : Int)) = true := by simp; omega
          clear h hw ho hV hl hh
          go_enter Try.func50, Try.ntmps50
          go_wp2_with fail
          refine (variable_spec b n K T q w HM.out).mono ?_
          rintro e w1 ⟨rfl, rfl⟩
          rw [HV.out]
          go_wp2_with fail
          refine (live_spec b lo K T q _ HM.out h1).mono ?_
          rintro e w2 ⟨rfl, hu⟩
          rw [HL.out]
          have HU := Lib.hid hu
          clear hu
          go_wp2_with fail
          refine (live_spec b hi K T q _ (HM.out.upd HU.out (by simp)) h2).mono ?_
          rintro e w3 ⟨rfl, hu⟩
          rw [HH.out]
          have HU2 := Lib.hid (HU.out.trans hu)
          clear hu
          have hll := HW.out.2.pm.ll
          have hvs := HW.out.1.vs
          obtain ⟨gl, cl, hql, c6, cv, _, hgl⟩ := (HM.out.upd HU2.out (by simp)).levCell (show n < K.level.length by omega)
          have hvi : (n : Int) < (K.level.length : Int) := by omega
          have hls : K.level.length ≤ 64 := by omega
          clear hll hql hgl
          have q6 : ∀ n' : Still w3, n'.x.cell? ⟨b, 6, none⟩ = some (.slice (some ⟨gl, 0, none⟩) K.level.length cl) := fun n' => n'.cell c6
          have qv : ∀ n' : Still w3, n'.x.cell? ⟨gl, n, none⟩ = some (.int .i64 (K.lev n)) := fun n' => n'.cell cv
          have HD1 : Hid (∀ n' : Still w3, Calls Try.prog 66 #[.pointer (some ⟨b, 0, none⟩), .int .u32 lo] n'.x fun e w'' => e = .returned (.int .i64 (K.dep lo)) ∧ ∃ m : Still w3, w'' = m.x) := fun n' =>
            (depth_spec b lo K T q _ (HM.out.upd (HU2.out.trans n'.u) (by simp)) HW.out.1 HW.out.2 h1 HL.out).mono fun _ _ ⟨a, u⟩ => ⟨a, ⟨_, n'.u.trans u⟩, rfl⟩
          have HD2 : Hid (∀ n' : Still w3, Calls Try.prog 66 #[.pointer (some ⟨b, 0, none⟩), .int .u32 hi] n'.x fun e w'' => e = .returned (.int .i64 (K.dep hi)) ∧ ∃ m : Still w3, w'' = m.x) := fun n' =>
            (depth_spec b hi K T q _ (HM.out.upd (HU2.out.trans n'.u) (by simp)) HW.out.1 HW.out.2 h2 HH.out).mono fun _ _ ⟨a, u⟩ => ⟨a, ⟨_, n'.u.trans u⟩, rfl⟩
          clear c6 cv
          go_wp2_with fail
          refine wp_region_still (by kernel_rfl) (by kernel_rfl) ?_
          repeat (quiet_step ((first | (go_at_call_of 66 (Value.int IntKind.u32 (lo : Int)); exact HD1.out _) | (go_at_call_of 66 (Value.int IntKind.u32 (hi : Int)); exact HD2.out _))))
          refine wpQuiet_nil ?_
          rintro _ ⟨nq, rfl⟩
          have HN := Lib.hid (HU2.out.trans nq.u)
          have HF : Hid (K.fitsE n lo hi = if ¬ K.lev n < min (K.dep lo) (K.dep hi) then 4 else 0) := by
            show K.fitsE n lo hi = _
            unfold KV.fitsE
            rw [if_neg (by rw [HV.out]; simp), if_neg (by rw [HL.out, HH.out]; simp), Int.toNat_natCast]
            simp only [HLH.out, ne_eq, not_false_eq_true, true_and]
          generalize hmm : (if K.dep hi < K.dep lo then ((K.dep hi : Nat) : Int) else ((K.dep lo : Nat) : Int)) = mm
          have HMM := Lib.hid hmm
          clear hmm
          cases hdd : decide (mm ≤ (K.lev n : Int)) with
          | true =>
            have HF4 : Hid (K.fitsE n lo hi = 4) := by
              have hh := of_decide_eq_true hdd
              have hmm := HMM.out
              show K.fitsE n lo hi = 4
              rw [HF.out, if_pos (by split at hmm <;> omega)]
            go_wp2_with fail
            go_ret
            exact ⟨by rw [HF4.out]; rfl, HN.out⟩
          | false =>
            have HF4 : Hid (K.fitsE n lo hi = 0) := by
              have hh := of_decide_eq_false hdd
              have hmm := HMM.out
              show K.fitsE n lo hi = 0
              rw [HF.out, if_neg (by split at hmm <;> omega)]
            go_wp2_with fail
            go_ret
            exact ⟨by rw [HF4.out]; rfl, HN.out⟩
end Go.Proofs.Ytnenhecnkidnpaa
