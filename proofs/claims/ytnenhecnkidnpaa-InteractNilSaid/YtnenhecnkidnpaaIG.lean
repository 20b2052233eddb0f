/- interact.Groups. -/
import Derived.Test.YtnenhecnkidnpaaIF
namespace Go.Proofs.Ytnenhecnkidnpaa
open Go.RowKit Go.Maps Go.ChangeMaps Go.WideShapes

def U64 (x : Int) : Prop := 0 ≤ x ∧ x < 18446744073709551616

theorem wrap_u64 (n : Int) : U64 (IntKind.u64.wrap n) := by
  have e : IntKind.u64.wrap n = n % 18446744073709551616 := rfl
  rw [e]; unfold U64; omega
theorem bits_u64 (op : BinOp) (x y : Int) : U64 (bits op IntKind.u64 x y) := wrap_u64 _

theorem bv_or_grow (A B : BitVec 64) : A.toNat ≤ (A ||| B).toNat ∧ ((B &&& ~~~A).toNat ≠ 0 → A.toNat < (A ||| B).toNat) := by
  have h1 : A.toNat ≤ (A ||| B).toNat := by rw [BitVec.toNat_or]; exact Nat.left_le_or
  refine ⟨h1, fun h => ?_⟩
  by_cases e : A.toNat = (A ||| B).toNat
  · exfalso
    apply h
    have e2 := BitVec.eq_of_toNat_eq e
    have : B &&& ~~~A = 0#64 := by
      apply BitVec.eq_of_getLsbD_eq
      intro i hi
      have : A.getLsbD i = (A ||| B).getLsbD i := congrArg (fun z => BitVec.getLsbD z i) e2
      rw [BitVec.getLsbD_or] at this
      rw [BitVec.getLsbD_and, BitVec.getLsbD_not, BitVec.getLsbD_zero, decide_eq_true hi]
      revert this
      cases A.getLsbD i <;> cases B.getLsbD i <;> intro this <;> first | rfl | exact this | cases this
    rw [this]; rfl
  · omega

theorem bits_or_grow (x y : Int) (hx : U64 x) : x ≤ bits BinOp.or IntKind.u64 x y ∧ (bits BinOp.andNot IntKind.u64 y x ≠ 0 → x < bits BinOp.or IntKind.u64 x y) := by
  have hA : ((BitVec.ofInt 64 x).toNat : Int) = x := by
    rw [BitVec.toNat_ofInt]
    unfold U64 at hx
    omega
  have e1 : bits BinOp.or IntKind.u64 x y = ((BitVec.ofInt 64 x ||| BitVec.ofInt 64 y).toNat : Int) % 18446744073709551616 := rfl
  have e2 : bits BinOp.andNot IntKind.u64 y x = ((BitVec.ofInt 64 y &&& ~~~(BitVec.ofInt 64 x)).toNat : Int) % 18446744073709551616 := rfl
  have l1 := (BitVec.ofInt 64 x ||| BitVec.ofInt 64 y).isLt
  have l2 := (BitVec.ofInt 64 y &&& ~~~(BitVec.ofInt 64 x)).isLt
  obtain ⟨g1, g2⟩ := bv_or_grow (BitVec.ofInt 64 x) (BitVec.ofInt 64 y)
  rw [e1, e2]
  refine ⟨by omega, fun h => ?_⟩
  have := g2 (by omega)
  omega

/-- one variable of a sweep -/
def growStep (M : List Int) (st : Int × Bool) (w : Nat) : Int × Bool := if bitT st.1 w && decide (bits BinOp.andNot IntKind.u64 (M.getD w 0) st.1 ≠ 0) then (bits BinOp.or IntKind.u64 st.1 (M.getD w 0), true) else st
def sweepTo (M : List Int) (n : Nat) (g : Int) : Int × Bool := (List.range n).foldl (growStep M) (g, false)

theorem sweep_succ (M : List Int) (n : Nat) (g : Int) : sweepTo M (n + 1) g = growStep M (sweepTo M n g) n := by
  unfold sweepTo
  rw [List.range_succ, List.foldl_append]; rfl

theorem sweep_grow (M : List Int) (n : Nat) (g : Int) (hg : U64 g) : U64 (sweepTo M n g).1 ∧ g ≤ (sweepTo M n g).1 ∧ ((sweepTo M n g).2 = true → g < (sweepTo M n g).1) ∧ ((sweepTo M n g).2 = false → (sweepTo M n g).1 = g) := by
  induction n with
  | zero => exact ⟨hg, Int.le_refl _, fun h => by simp [sweepTo] at h, fun _ => rfl⟩
  | succ n ih =>
    rw [sweep_succ]
    generalize sweepTo M n g = st at ih
    obtain ⟨h1, h2, h3, h4⟩ := ih
    unfold growStep
    split
    · rename_i hc
      simp only [Bool.and_eq_true, decide_eq_true_eq] at hc
      have := bits_or_grow st.1 (M.getD n 0) h1
      have k := this.2 hc.2
      refine ⟨wrap_u64 _, by simp only; omega, fun _ => by simp only; omega, fun h => by simp at h⟩
    · exact ⟨h1, h2, h3, h4⟩

/-- a group grown to its end -/
inductive Grow (M : List Int) (n : Nat) : Int → Int → Prop
  | done {g : Int} (h : (sweepTo M n g).2 = false) : Grow M n g g
  | more {g g' : Int} (h : (sweepTo M n g).2 = true) (k : Grow M n (sweepTo M n g).1 g') : Grow M n g g'

/-- the groups of the first variables -/
inductive GrR (M : List Int) (n : Nat) : Nat → Int → List Int → Prop
  | zero : GrR M n 0 0 []
  | skip {v : Nat} {d : Int} {gs : List Int} (h : GrR M n v d gs) (hb : bitT d v = true) : GrR M n (v + 1) d gs
  | take {v : Nat} {d g : Int} {gs : List Int} (h : GrR M n v d gs) (hb : bitT d v = false) (k : Grow M n (IntKind.u64.wrap (2 ^ v)) g) : GrR M n (v + 1) (bits BinOp.or IntKind.u64 d g) (gs ++ [g])

theorem GrR.len {M : List Int} {n v : Nat} {d : Int} {gs : List Int} (h : GrR M n v d gs) : gs.length ≤ v := by
  induction h with
  | zero => simp
  | skip _ _ ih => omega
  | take _ _ _ ih => simp; omega

/-- Groups' post -/
structure GroupsQ (K : KV) (w : World) (e : Ending) (w' : World) : Prop where
  ex : ∃ (lv : Value) (ss : List Int) (d : Int) (gs : List Int), e = .returned lv ∧ SupL K K.roots ss ∧ GrR (ss.foldl (matRow K.vars) (List.replicate K.vars 0)) K.vars K.vars d gs ∧ w'.ownsRow w.heap.size 59 1 lv gs.length (flatU gs) ∧ Upd [] w w'

set_option maxRecDepth 100000 in
set_option maxHeartbeats 3200000 in
theorem groups_spec (b : Nat) (K : KV) (T : List DM) (q : KPtr) (w : World) (h : KerIn w b K T q) :
    Calls Try.prog 10 #[.pointer (some ⟨b, 0, none⟩)] w fun e w' => GroupsQ K w e w' := by
  obtain ⟨ti, hi2, hz2, hs2, hb2⟩ := info_parts Try.infoU64
  have HI := Lib.hid (And.intro hi2 (And.intro hz2 (And.intro hs2 hb2)))
  have HK := Lib.hid h
  have hvs := h.ok.wf.vs
  clear h hi2 hz2 hs2 hb2
  go_enter Try.func10, Try.ntmps10
  go_wp2_with fail
  refine (matrix_spec b K T q _ HK.out).mono ?_
  rintro e w1 ⟨g, ss, rfl, hS, hM⟩
  obtain ⟨M, hMM⟩ : ∃ M, ss.foldl (matRow K.vars) (List.replicate K.vars 0) = M := ⟨_, rfl⟩
  rw [hMM] at hM
  have HM := Lib.hid (And.intro hM (And.intro hS hMM))
  have hml : M.length = K.vars := hM.len
  have hgl := (hM.row.lt g rfl)
  have hw1 := hM.up.size
  clear hM hS hMM
  go_wp2_with fail
  go_loopg [4, 5, 14] K.vars (fun gg s4 s5 s14 wr => ∃ (v : Nat) (d : Int) (gs : List Int), K.vars - v = gg ∧ v ≤ K.vars ∧ s14 = .int .i64 v ∧ s5 = .int .u64 d ∧ GrR M K.vars v d gs ∧ wr.ownsRow w1.heap.size 59 1 s4 gs.length (flatU gs) ∧ Upd [] w1 wr)
  case atStart => exact ⟨0, 0, [], by omega, by omega, rfl, rfl, .zero, World.ownsRow_nil _ _ _ _, Upd.refl _ _⟩
  case round =>
    obtain ⟨v, d, gs, rfl, hv, rfl, rfl, hG, ho, hU⟩ := hrel
    by_cases hlt : v < K.vars
    · have hvi : (v : Int) < (K.vars : Int) := by omega
      have hv64 : v < 64 := by omega
      cases hbt : (bits BinOp.and IntKind.u64 (d / 2 ^ v) 1 == 1) with
      | true =>
        have HE := Lib.hid (And.intro (hG.skip hbt) (And.intro ho hU))
        clear hG ho hU
        go_wp2_with fail
        go_roundg (K.vars - (v + 1))
        case measure => omega
        case rel => exact ⟨v + 1, d, gs, rfl, by omega, by simp, rfl, HE.out⟩
      | false =>
        have HB : Hid (bitT d v = false) := hbt
        have HG := Lib.hid (And.intro hG (And.intro ho hU))
        have hsz := hU.size
        clear hG ho hU
        go_wp2_with fail
        have HW : Hid (U64 (IntKind.u64.wrap (2 ^ v))) := wrap_u64 _
        have HZ : Hid (∃ z, IntKind.u64.wrap (2 ^ v) = z) := ⟨_, rfl⟩
        go_loopg [7, 8] ((18446744073709551616 - IntKind.u64.wrap (2 ^ v)).toNat + 1) (fun gg s7 s8 wr2 => ∃ (gr : Int) (t : Bool), (18446744073709551616 - gr).toNat + (if t then 1 else 0) = gg ∧ s7 = .int .u64 gr ∧ s8 = .bool t ∧ U64 gr ∧ (t = true → ∀ z, Grow M K.vars gr z → Grow M K.vars (IntKind.u64.wrap (2 ^ v)) z) ∧ (t = false → Grow M K.vars (IntKind.u64.wrap (2 ^ v)) gr) ∧ wr2 = wr)
        case atStart => exact ⟨_, true, rfl, rfl, rfl, HW.out, fun _ z h => h, fun h => (by cases h), rfl⟩
        case round =>
          obtain ⟨gr, t, rfl, rfl, rfl, hu, ht, hf, rfl⟩ := hrel
          cases t with
          | false =>
            have HE := Lib.hid (hf rfl)
            have HO := Lib.hid HG.out.2.1
            have hln := HG.out.1.len
            obtain ⟨fa, fc, hfv, _⟩ := row_nil_len HG.out.2.1
            subst hfv
            have HC2 : Hid (∀ u, u ∈ [Value.int .u64 gr] → u.oneCell' = true) := by intro u hu; simp at hu; subst hu; rfl
            have hbs : w1.heap.size ≤ (wr.alloc (.cells #[.int .u64 gr] 59 (0, 0))).heap.size := by rw [World.size_alloc]; omega
            clear hu ht hf
            go_wp2_with (at_builtin; go_must (refine wpList_append_lies _ rfl (.tmp 51) (.tmp 53) 35 rfl w1.heap.size 59 ti _ 1 8 Try.underlying35 HI.out.1 HI.out.2.1 HI.out.2.2.1 HI.out.2.2.2 (by rfl) (by decide) _ gs.length (flatU gs) rfl (HO.out.alloc _) ⟨wr.heap.size, 0, none⟩ 1 1 [.int .u64 gr] rfl rfl ?c1 HC2.out (by omega) (by unfold maxLen; omega) (by omega) hbs _ rfl ?_))
            case c1 => exact World.news_of_block (heap_alloc_new wr (.cells #[.int .u64 gr] 59 (0, 0)))
            intro g5 cap w5 hown hgr hat hlt5
            have HX : Hid (w5.ownsRow w1.heap.size 59 1 (.slice (some ⟨g5, 0, none⟩) (gs.length + 1) cap) (gs ++ [gr]).length (flatU (gs ++ [gr])) ∧ Upd [] w1 w5) := by
              refine ⟨by simpa [flatU] using hown, (HG.out.2.2.alloc _).grown hgr fun k hk => .inr ?_⟩
              exact (HO.out.lt k hk).1
            clear hown hgr hat hlt5
            go_wp2_with fail
            go_roundg (K.vars - (v + 1))
            case measure => omega
            case rel => exact ⟨v + 1, _, gs ++ [gr], rfl, by omega, by simp, rfl, HG.out.1.take HB.out HE.out, HX.out.1, HX.out.2⟩
          | true =>
            have HT := Lib.hid (And.intro (ht rfl) hu)
            clear hu ht hf
            go_wp2_with fail
            go_loopg [7, 8, 27] K.vars (fun gg s7 s8 s27 wr3 => ∃ j : Nat, K.vars - j = gg ∧ j ≤ K.vars ∧ s27 = .int .i64 j ∧ s7 = .int .u64 (sweepTo M j gr).1 ∧ s8 = .bool (sweepTo M j gr).2 ∧ wr3 = wr)
            case atStart => exact ⟨0, by omega, by omega, rfl, rfl, rfl, rfl⟩
            case round =>
              obtain ⟨j, rfl, hj, rfl, rfl, rfl, rfl⟩ := hrel
              have HSW : Hid (sweepTo M (j + 1) gr = growStep M (sweepTo M j gr) j) := sweep_succ _ _ _
              by_cases hjt : j < K.vars
              · have hji : (j : Int) < (K.vars : Int) := by omega
                have hj64 : j < 64 := by omega
                generalize hst : sweepTo M j gr = st at HSW
                obtain ⟨x, t⟩ := st
                obtain ⟨m, hm⟩ : ∃ m, M[j]? = some m := ⟨_, List.getElem?_eq_getElem (by omega)⟩
                have hrow := row_keep HM.out.1.row fun k hk => HG.out.2.2.block k (HM.out.1.row.lt k hk).2 (by simp)
                have cm := row_cell hrow (j := j) (u := .int .u64 m) (by simp [flatU, hm])
                have HD : Hid (M.getD j 0 = m) := by
                  show _ = _
                  rw [List.getD_eq_getElem?_getD, hm]; rfl
                clear hrow hm
                simp only
                cases hb : (bits BinOp.and IntKind.u64 (x / 2 ^ j) 1 == 1) with
                | false =>
                  have HN : Hid (growStep M (x, t) j = (x, t)) := by
                    unfold growStep
                    show (if bitT x j && _ then _ else _) = _
                    rw [show bitT x j = false from hb]; rfl
                  go_wp2_with fail
                  go_roundg (K.vars - (j + 1))
                  case measure => omega
                  case rel => exact ⟨j + 1, rfl, by omega, by simp, by rw [HSW.out, HN.out], by rw [HSW.out, HN.out], rfl⟩
                | true =>
                  by_cases hz : bits BinOp.andNot IntKind.u64 m x = 0
                  · have hz1 : (bits BinOp.andNot IntKind.u64 m x == 0) = true := by simpa using hz
                    have HN : Hid (growStep M (x, t) j = (x, t)) := by
                      unfold growStep
                      show (if bitT x j && decide (bits BinOp.andNot IntKind.u64 (M.getD j 0) x ≠ 0) then _ else _) = _
                      rw [HD.out]; simp [hz]
                    go_wp2_with fail
                    go_roundg (K.vars - (j + 1))
                    case measure => omega
                    case rel => exact ⟨j + 1, rfl, by omega, by simp, by rw [HSW.out, HN.out], by rw [HSW.out, HN.out], rfl⟩
                  · have hz1 : (bits BinOp.andNot IntKind.u64 m x == 0) = false := by simpa using hz
                    have HN : Hid (growStep M (x, t) j = (bits BinOp.or IntKind.u64 x m, true)) := by
                      unfold growStep
                      show (if bitT x j && decide (bits BinOp.andNot IntKind.u64 (M.getD j 0) x ≠ 0) then (bits BinOp.or IntKind.u64 x (M.getD j 0), true) else _) = _
                      rw [HD.out, show bitT x j = true from hb]; simp [hz]
                    go_wp2_with fail
                    go_roundg (K.vars - (j + 1))
                    case measure => omega
                    case rel => exact ⟨j + 1, rfl, by omega, by simp, by rw [HSW.out, HN.out], by rw [HSW.out, HN.out], rfl⟩
              · obtain rfl : j = K.vars := by omega
                have hji : ¬ ((K.vars : Int) < (K.vars : Int)) := by omega
                have HGR := Lib.hid (sweep_grow M K.vars gr HT.out.2)
                have HMO : Hid ((sweepTo M K.vars gr).2 = true → ∀ z, Grow M K.vars (sweepTo M K.vars gr).1 z → Grow M K.vars (IntKind.u64.wrap (2 ^ v)) z) := fun h z k => HT.out.1 z (.more h k)
                have HDO : Hid ((sweepTo M K.vars gr).2 = false → Grow M K.vars (IntKind.u64.wrap (2 ^ v)) (sweepTo M K.vars gr).1) := fun h => HT.out.1 _ (by
                  have e := (sweep_grow M K.vars gr HT.out.2).2.2.2 h
                  rw [e]; exact .done h)
                generalize sweepTo M K.vars gr = st at *
                obtain ⟨x, t⟩ := st
                simp only
                go_wp2_with fail
                go_roundg ((18446744073709551616 - x).toNat + (if t then 1 else 0))
                case measure =>
                  have h1 := HGR.out
                  unfold U64 at h1
                  cases t with
                  | true => have := h1.2.2.1 rfl; simp at h1 this ⊢; omega
                  | false => have := h1.2.2.2 rfl; simp at h1 this ⊢; omega
                case rel => exact ⟨x, t, rfl, rfl, rfl, HGR.out.1, HMO.out, HDO.out, rfl⟩
    · obtain rfl : v = K.vars := by omega
      have hvi : ¬ ((K.vars : Int) < (K.vars : Int)) := by omega
      have HE := Lib.hid (And.intro (row_base ho hw1) (And.intro (HM.out.1.up.trans hU) (show GrR (ss.foldl (matRow K.vars) (List.replicate K.vars 0)) K.vars K.vars d gs by rw [HM.out.2.2]; exact hG)))
      clear hG ho hU
      go_wp2_with fail
      go_ret
      exact ⟨_, ss, d, gs, rfl, HM.out.2.1, HE.out.2.2, HE.out.1, HE.out.2.1⟩
end Go.Proofs.Ytnenhecnkidnpaa
