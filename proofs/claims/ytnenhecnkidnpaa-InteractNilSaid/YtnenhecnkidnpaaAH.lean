/- The walk of the recursion. -/
import Derived.Test.YtnenhecnkidnpaaAG
import Derived.Deep.DeepCutAuto
namespace Go.Proofs.Ytnenhecnkidnpaa
open Go.RowKit Go.Maps Go.ChangeMaps Go.WideShapes

/-- the recursion's contract for questions from level d on -/
def GoHyp (K0 : KV) (t : (Nat → Bool) → Bool) (wb b ck cw cl cg mb fl : Nat) (caps : Array Value) (FL : List Nat) (L : Bool → Bool → Bool → Bool) (lvv : Value) (d : Nat) : Prop :=
  ∀ (f g h : Nat) (K : KV) (T : List DM) (q : KPtr) (M : List Nat) (mv : Value) (D : DM) (w : World), RunM w wb b ck cw cl cg mb fl caps FL L K T q M lvv mv D → AskQ K f g h → d ≤ K.dep3 f g h → RunS K0 (K0.SubN t) M K → KnownOk K0 L M K D → Runs3 K L t f g h →
    Calls Try.prog 56 #[.agg #[.int .u32 f, .int .u32 g, .int .u32 h], .pointer (some ⟨ck, 0, none⟩), .pointer (some ⟨cw, 0, none⟩), .pointer (some ⟨cl, 0, none⟩), .pointer (some ⟨cg, 0, none⟩)] w fun e w' =>
      ∃ (r : Nat) (code : Int), e = .returned (.tuple #[.int .u32 r, .int .i64 code]) ∧ GoP K0 (K0.SubN t) f g h wb b ck cw cl cg mb fl caps FL L K q M lvv mv w r code w'

set_option maxRecDepth 100000 in
set_option maxHeartbeats 1600000 in
/-- where the answer is known -/
theorem go_known (K0 : KV) (t : (Nat → Bool) → Bool) (wb b ck cw cl cg mb fl : Nat) (caps : Array Value) (FL : List Nat) (L : Bool → Bool → Bool → Bool) (lvv : Value)
    (f g h : Nat) (K : KV) (T : List DM) (q : KPtr) (M : List Nat) (mv : Value) (D : DM) (w : World) (hR : RunM w wb b ck cw cl cg mb fl caps FL L K T q M lvv mv D) (hA : AskQ K f g h) (hS : RunS K0 (K0.SubN t) M K) (hK : KnownOk K0 L M K D) (hh : Maps.has D (qk f g h) = true) :
    Calls Try.prog 56 #[.agg #[.int .u32 f, .int .u32 g, .int .u32 h], .pointer (some ⟨ck, 0, none⟩), .pointer (some ⟨cw, 0, none⟩), .pointer (some ⟨cl, 0, none⟩), .pointer (some ⟨cg, 0, none⟩)] w fun e w' =>
      ∃ (r : Nat) (code : Int), e = .returned (.tuple #[.int .u32 r, .int .i64 code]) ∧ GoP K0 (K0.SubN t) f g h wb b ck cw cl cg mb fl caps FL L K q M lvv mv w r code w' := by
  have hok := hR.wk.ker.ok
  have b0 := hok.ref_lt hA.t0
  have b1 := hok.ref_lt hA.t1
  have b2 := hok.ref_lt hA.t2
  obtain ⟨_, _, _, r, hr, ha, hG⟩ := hK.ok f g h (by omega) (by omega) (by omega) hh
  have hbx := heap_alloc_new w (.cells #[.int .u32 f, .int .u32 g, .int .u32 h] 82 (0, 0))
  have x0 : (w.alloc (.cells #[.int .u32 f, .int .u32 g, .int .u32 h] 82 (0, 0))).cell? ⟨w.heap.size, 0, none⟩ = some (.int .u32 f) := cell_at hbx rfl
  have x1 : (w.alloc (.cells #[.int .u32 f, .int .u32 g, .int .u32 h] 82 (0, 0))).cell? ⟨w.heap.size, 1, none⟩ = some (.int .u32 g) := cell_at hbx rfl
  have x2 : (w.alloc (.cells #[.int .u32 f, .int .u32 g, .int .u32 h] 82 (0, 0))).cell? ⟨w.heap.size, 2, none⟩ = some (.int .u32 h) := cell_at hbx rfl
  have hR1 := hR.keep ((Upd.refl [] w).alloc (.cells #[.int .u32 f, .int .u32 g, .int .u32 h] 82 (0, 0)))
  obtain ⟨y0, y1, y2, y3⟩ := hR1.cells
  obtain ⟨x, ps, hrun, hx⟩ := hR1.map.look_ok quesKeyed Try.underlying106 (zeroRef _) (plainElem_int (H := Unit) Try.underlying27 (wfR (n := 0) (by omega))) (qk_of (f := f) (g := g) (h := h) (by omega) (by omega) (by omega))
  obtain ⟨c, rfl, hat, hwc⟩ := plainElem_int_inv Try.underlying27 hx
  have hat0 : D.atKey (qk f g h) (.lit (.int .u32 0)) = .lit (.int .u32 c) := by simpa using congrArg Prod.fst hat
  rw [ha] at hat0
  have hcr : c = (r : Int) := by simp at hat0; exact hat0.symm
  subst hcr
  rw [hh] at hrun
  have HE : Hid (GoP K0 (K0.SubN t) f g h wb b ck cw cl cg mb fl caps FL L K q M lvv mv w r 0 (w.alloc (.cells #[.int .u32 f, .int .u32 g, .int .u32 h] 82 (0, 0)))) :=
    ⟨⟨K, M, T, q, mv, D, ⟨hS, .refl K, fun _ h => h, .inl ⟨rfl, hG⟩⟩, hK, hR1, (Upd.refl _ w).alloc _, Sub.refl _ _⟩, hr⟩
  clear hR hA hS hK hh hok ha hG hbx hR1 hx hat hwc hat0
  go_enter Try.func56, Try.ntmps56
  go_wp2_with fail
  go_ret2
  exact ⟨r, 0, rfl, HE.out⟩

set_option maxRecDepth 100000 in
set_option maxHeartbeats 1600000 in
/-- where all three are constants -/
theorem go_leaf (K0 : KV) (t : (Nat → Bool) → Bool) (wb b ck cw cl cg mb fl : Nat) (caps : Array Value) (FL : List Nat) (L : Bool → Bool → Bool → Bool) (lvv : Value)
    (f g h : Nat) (K : KV) (T : List DM) (q : KPtr) (M : List Nat) (mv : Value) (D : DM) (w : World) (hR : RunM w wb b ck cw cl cg mb fl caps FL L K T q M lvv mv D) (hA : AskQ K f g h) (hS : RunS K0 (K0.SubN t) M K) (hK : KnownOk K0 L M K D) (hh : Maps.has D (qk f g h) = false)
    (p0 p1 p2 : PlaceV) (a0 : K.A.list[f]? = some p0 ∧ p0.taken = true) (a1 : K.A.list[g]? = some p1 ∧ p1.taken = true) (a2 : K.A.list[h]? = some p2 ∧ p2.taken = true) (htop : K.top [p0, p1, p2] = -1) (hv : ∀ p, p ∈ [p0, p1, p2] → p.var = -1) (hen : Enters fl) :
    Calls Try.prog 56 #[.agg #[.int .u32 f, .int .u32 g, .int .u32 h], .pointer (some ⟨ck, 0, none⟩), .pointer (some ⟨cw, 0, none⟩), .pointer (some ⟨cl, 0, none⟩), .pointer (some ⟨cg, 0, none⟩)] w fun e w' =>
      ∃ (r : Nat) (code : Int), e = .returned (.tuple #[.int .u32 r, .int .i64 code]) ∧ GoP K0 (K0.SubN t) f g h wb b ck cw cl cg mb fl caps FL L K q M lvv mv w r code w' := by
  have hok := hR.wk.ker.ok
  have b0 := hok.ref_lt hA.t0
  have b1 := hok.ref_lt hA.t1
  have b2 := hok.ref_lt hA.t2
  have c0 := all_const hok a0 (hv p0 (by simp))
  have c1 := all_const hok a1 (hv p1 (by simp))
  have c2 := all_const hok a2 (hv p2 (by simp))
  have HEN : Hid (∀ (args : Array Value) (w : World), (callFunc fl args).run Try.prog w = .ok (.enter fl args) w) := hen
  have HG := good_leaf (K0 := K0) (M := M) hok L c0 c1 c2
  have ib : ∀ k : Nat, ((k : Int) == 1) = (k == 1) := fun k => by rw [Bool.eq_iff_iff]; simp; omega
  rw [← ib, ← ib, ← ib] at HG
  have HG := Lib.hid HG
  have HP := Lib.hid (And.intro a0 (And.intro a1 (And.intro a2 htop)))
  have HV : Hid (∀ p, p ∈ [p0, p1, p2] → K.orVar p.var) := fun p hp => .inl (hv p hp)
  have HS := Lib.hid (And.intro hS hK)
  have hbx := heap_alloc_new w (.cells #[.int .u32 f, .int .u32 g, .int .u32 h] 82 (0, 0))
  have x0 : (w.alloc (.cells #[.int .u32 f, .int .u32 g, .int .u32 h] 82 (0, 0))).cell? ⟨w.heap.size, 0, none⟩ = some (.int .u32 f) := cell_at hbx rfl
  have x1 : (w.alloc (.cells #[.int .u32 f, .int .u32 g, .int .u32 h] 82 (0, 0))).cell? ⟨w.heap.size, 1, none⟩ = some (.int .u32 g) := cell_at hbx rfl
  have x2 : (w.alloc (.cells #[.int .u32 f, .int .u32 g, .int .u32 h] 82 (0, 0))).cell? ⟨w.heap.size, 2, none⟩ = some (.int .u32 h) := cell_at hbx rfl
  have HBX := Lib.hid hbx
  have hR1 := hR.keep ((Upd.refl [] w).alloc (.cells #[.int .u32 f, .int .u32 g, .int .u32 h] 82 (0, 0)))
  obtain ⟨y0, y1, y2, y3⟩ := hR1.cells
  obtain ⟨x, ps, hrun, hx⟩ := hR1.map.look_ok quesKeyed Try.underlying106 (zeroRef _) (plainElem_int (H := Unit) Try.underlying27 (wfR (n := 0) (by omega))) (qk_of (f := f) (g := g) (h := h) (by omega) (by omega) (by omega))
  obtain ⟨c, rfl, hat, hwc⟩ := plainElem_int_inv Try.underlying27 hx
  rw [hh] at hrun
  have HR1 := Lib.hid hR1
  clear hR hA hS hK hh hok hbx hR1 hx hat hwc a0 a1 a2 htop hv ib hen
  go_enter Try.func56, Try.ntmps56
  go_wp2_with fail
  refine (wnodes_spec wb b f g h K T q M lvv mv p0 p1 p2 _ HR1.out.wk ⟨HP.out.1.1, HP.out.1.2, by omega⟩ ⟨HP.out.2.1.1, HP.out.2.1.2, by omega⟩ ⟨HP.out.2.2.1.1, HP.out.2.2.1.2, by omega⟩).mono ?_
  rintro e w1 ⟨v, rfl, hN⟩
  have HN := Lib.hid hN
  have HR2 := Lib.hid (HR1.out.keep hN.up)
  clear hN y0 y1 y2 y3 hrun x0 x1 x2
  obtain ⟨y0, y1, y2, y3⟩ := HR2.out.cells
  go_wp2_with fail
  refine (wtop_spec wb b K T q M lvv mv v _ [p0, p1, p2] _ HR2.out.wk HN.out.row HV.out (by simp)).mono ?_
  rintro e w2 ⟨rfl, hu⟩
  rw [HP.out.2.2.2]
  have HU2 := Lib.hid (HN.out.up.trans hu)
  have HR3 := Lib.hid (HR2.out.keep hu)
  have hbx2 : w2.heap[w.heap.size]? = some (.cells #[.int .u32 f, .int .u32 g, .int .u32 h] 82 (0, 0)) := (HU2.out.block _ (heap_lt HBX.out) (by simp)).trans HBX.out
  have x0 : w2.cell? ⟨w.heap.size, 0, none⟩ = some (.int .u32 f) := cell_at hbx2 rfl
  have x1 : w2.cell? ⟨w.heap.size, 1, none⟩ = some (.int .u32 g) := cell_at hbx2 rfl
  have x2 : w2.cell? ⟨w.heap.size, 2, none⟩ = some (.int .u32 h) := cell_at hbx2 rfl
  clear hu y0 y1 y2 y3 hbx2
  obtain ⟨y0, y1, y2, y3⟩ := HR3.out.cells
  have hen := HEN.out
  go_wp2_with fail
  refine (HR3.out.leaf w2 (fun _ _ => rfl) ((f : Int) == 1) ((g : Int) == 1) ((h : Int) == 1)).mono ?_
  rintro e w3 ⟨rfl, hu⟩
  have HR4 := Lib.hid (HR3.out.keep hu)
  have HU4 := Lib.hid (HU2.out.trans hu)
  generalize L ((f : Int) == 1) ((g : Int) == 1) ((h : Int) == 1) = bb at HG
  clear hu hen y0 y1 y2 y3 x0 x1 x2 c0 c1 c2
  have HE : Hid (GoP K0 (K0.SubN t) f g h wb b ck cw cl cg mb fl caps FL L K q M lvv mv w (if bb = true then 1 else 0) 0 w3) :=
    ⟨⟨K, M, T, q, mv, D, ⟨HS.out.1, .refl K, fun _ h => h, .inl ⟨rfl, HG.out⟩⟩, HS.out.2, HR4.out, (((Upd.refl [] w).alloc _).trans HU4.out).mono (by simp), Sub.refl _ _⟩, by split <;> omega⟩
  clear HG
  cases bb with
  | true =>
    go_wp2_with fail
    go_ret2
    exact ⟨1, 0, rfl, HE.out⟩
  | false =>
    go_wp2_with fail
    go_ret2
    exact ⟨0, 0, rfl, HE.out⟩
end Go.Proofs.Ytnenhecnkidnpaa
