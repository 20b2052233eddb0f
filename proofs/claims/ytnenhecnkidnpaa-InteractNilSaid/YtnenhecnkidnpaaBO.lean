/- The operations on a kernel. -/
import Derived.Test.YtnenhecnkidnpaaBL
namespace Go.Proofs.Ytnenhecnkidnpaa
open Go.RowKit Go.Maps Go.ChangeMaps Go.WideShapes

/-- what an operation answers and leaves -/
structure OpPost (b : Nat) (K0 : KV) (q : KPtr) (t : (Nat → Bool) → Bool) (w : World) (e : Ending) (w' : World) : Prop where
  ex : ∃ (r : Nat) (code : Int) (K' : KV) (T' : List DM) (q' : KPtr), e = .returned (.tuple #[.int .u32 r, .int .i64 code]) ∧ OpR K0 t r code K' ∧ KerIn w' b K' T' q' ∧ Upd (q.all b) w w' ∧ Sub (q.all b) w (q'.all b)

theorem OpPost.of_run {b wb f g h : Nat} {K0 : KV} {q : KPtr} {L : Bool → Bool → Bool → Bool} {lvv : Value} {w w1 w' : World} {e : Ending} (hk : K0.Ok) (hA : AskQ K0 f g h) (hu : Upd [] w w1) (hF : ∀ k, k ∈ workF wb lvv (.slice none 0 0) → w.heap.size ≤ k)
    (R : RunPost b K0 q L f g h (wkF wb b q lvv (.slice none 0 0)) w1 e w') : OpPost b K0 q (K0.fun3 L f g h) w e w' := by
  obtain ⟨r, code, K1, M, K', T', q', rfl, S, h1, hu1, X, hk', hu', hs'⟩ := R.ex
  have hin : ∀ k, k ∈ wkF wb b q lvv (.slice none 0 0) → k ∈ q.all b ∨ w.heap.size ≤ k := fun k hk => by
    rcases List.mem_append.1 hk with h | h
    · exact .inl h
    · exact .inr (hF k h)
  have hsz := hu.size
  refine ⟨_, _, K', T', q', rfl, op_of hk h1 hk'.ok hA S X, hk', (hu.mono (by simp) : Upd (q.all b) w w1).then hu' hin, fun k hk => ?_⟩
  rcases hs' k hk with h | h
  · exact hin k h
  · right; omega

set_option maxRecDepth 100000 in
set_option maxHeartbeats 1600000 in
theorem binary_live (b op f g : Nat) (K : KV) (T : List DM) (q : KPtr) (w : World) (h : KerIn w b K T q) (ho : op ≤ 15) (hf : K.A.tk f = true) (hg : K.A.tk g = true) :
    Calls Try.prog 21 #[.pointer (some ⟨b, 0, none⟩), .int .u8 op, .int .u32 f, .int .u32 g] w fun e w' => OpPost b K q (K.fun3 (fun x y _ => opB op x y) f g 0) w e w' := by
  have hmf : ∀ (fn : Fn) (first cap : Array Value) (w : World), (Instr.makeFunc fn first cap).run Try.prog w = .ok (.func fn first cap) w := fun _ _ _ _ => rfl
  have hob : decide ((15 : Int) < (op : Int)) = false := by simp; omega
  have hob2 : decide (15 < op) = false := by simp; omega
  have HK := Lib.hid h
  have HA : Hid (AskQ K f g 0) := ⟨hf, hg, h.ok.wf.ok.tk01.1⟩
  have HBX : Hid ((w.alloc (.cells #[.int .u8 op] 5 (0, 0))).heap[w.heap.size]? = some (.cells #[.int .u8 op] 5 (0, 0))) := heap_alloc_new w _
  have x0 := cell_at (j := 0) HBX.out rfl
  have HROW : Hid (((w.alloc (.cells #[.int .u8 op] 5 (0, 0))).alloc (.cells #[.int .u32 f, .int .u32 g] 27 (0, 0))).ownsRow 0 27 1 (.slice (some ⟨w.heap.size + 1, 0, none⟩) 2 2) [f, g].length (flatRefs [f, g])) := by
    have := World.ownsRow_lit (base := 0) (e := 27) (size := 1) (w.alloc (.cells #[.int .u8 op] 5 (0, 0))) #[.int .u32 f, .int .u32 g] 2 (Nat.zero_le _) (by unfold maxLen; omega) rfl
    rw [World.size_alloc] at this
    exact this
  have HU : Hid (Upd [] w ((w.alloc (.cells #[.int .u8 op] 5 (0, 0))).alloc (.cells #[.int .u32 f, .int .u32 g] 27 (0, 0)))) := ((Upd.refl [] w).alloc _).alloc _
  have HL : Hid (∀ r, r ∈ [f, g] → K.A.tk r = true) := fun r hr => by
    simp only [List.mem_cons, List.not_mem_nil, or_false] at hr
    rcases hr with rfl | rfl
    · exact hf
    · exact hg
  clear h hf hg
  go_enter Try.func21, Try.ntmps21
  go_wp2_with fail
  refine (begin_ok b K T q _ [f, g] _ (HK.out.upd HU.out (by simp)) HROW.out HL.out (by simp)).mono ?_
  rintro e w1 ⟨wb, lvv, rfl, hW, hu, hF⟩
  have hsz := HU.out.size
  have HB1 : Hid (w1.heap[w.heap.size]? = some (.cells #[.int .u8 op] 5 (0, 0))) := (hu.block _ (by rw [World.size_alloc, World.size_alloc]; omega) (by simp)).trans ((heap_alloc_old _ _ (heap_lt HBX.out)).trans HBX.out)
  have HW := Lib.hid (And.intro hW (And.intro (HU.out.trans hu) (fun k hk => Nat.le_trans hsz (hF k hk) : ∀ k, k ∈ workF wb lvv (.slice none 0 0) → w.heap.size ≤ k)))
  have HLF : Hid (LeafOk w1 40 #[.pointer (some ⟨w.heap.size, 0, none⟩)] [w.heap.size] (fun x y _ => opB op x y)) := fun w' hw' x y z => by
    have e := (hw' w.heap.size (by simp)).trans HB1.out
    exact leafB_spec op w.heap.size x y z w' ho (cell_at e rfl)
  have HDJ : Hid (∀ k, k ∈ wkF wb b q lvv (.slice none 0 0) → k ∉ [w.heap.size]) := fun k hk hm => by
    simp only [List.mem_singleton] at hm
    subst hm
    rcases List.mem_append.1 hk with h1 | h1
    · have := HK.out.mem.lt _ h1; omega
    · have := hF _ h1
      rw [World.size_alloc, World.size_alloc] at this; omega
  clear hW hu hF x0
  go_wp2_with fail
  refine (wrun_spec wb b 40 f g 0 #[.pointer (some ⟨w.heap.size, 0, none⟩)] [w.heap.size] (fun x y _ => opB op x y) K T q lvv w1 HW.out.1 HA.out HLF.out (fun k hk => by simp only [List.mem_singleton] at hk; subst hk; exact heap_lt HB1.out) HDJ.out enters_B).mono ?_
  rintro e w2 hR
  obtain ⟨r, code, K', T', q', rfl, hE⟩ := (OpPost.of_run HK.out.ok HA.out HW.out.2.1 HW.out.2.2 hR).ex
  have HE := Lib.hid hE
  clear hR hE
  go_wp2_with fail
  go_ret2
  exact ⟨r, code, K', T', q', rfl, HE.out⟩

set_option maxRecDepth 100000 in
theorem binary_arg (b op f g : Nat) (w : World) (ho : 15 < op) :
    Calls Try.prog 21 #[.pointer (some ⟨b, 0, none⟩), .int .u8 op, .int .u32 f, .int .u32 g] w fun e w' => e = .returned (.tuple #[.int .u32 0, .int .i64 1]) ∧ Upd [] w w' := by
  have hob : decide ((15 : Int) < (op : Int)) = true := by simp; omega
  have hob2 : (15 : Int) < (op : Int) := by omega
  have HBX : Hid ((w.alloc (.cells #[.int .u8 op] 5 (0, 0))).heap[w.heap.size]? = some (.cells #[.int .u8 op] 5 (0, 0))) := heap_alloc_new w _
  have x0 := cell_at (j := 0) HBX.out rfl
  go_enter Try.func21, Try.ntmps21
  go_wp2_with fail
  go_ret2
  exact ⟨rfl, (Upd.refl _ _).alloc _⟩

set_option maxRecDepth 100000 in
theorem binary_dead (b op f g : Nat) (K : KV) (T : List DM) (q : KPtr) (w : World) (h : KerIn w b K T q) (ho : op ≤ 15) (hf32 : f ≤ 4294967295) (hg32 : g ≤ 4294967295) (hd : K.A.tk f = false ∨ K.A.tk g = false) :
    Calls Try.prog 21 #[.pointer (some ⟨b, 0, none⟩), .int .u8 op, .int .u32 f, .int .u32 g] w fun e w' => e = .returned (.tuple #[.int .u32 0, .int .i64 3]) ∧ Upd [] w w' := by
  have hob : decide ((15 : Int) < (op : Int)) = false := by simp; omega
  have hob2 : decide (15 < op) = false := by simp; omega
  have HK := Lib.hid h
  have HBX : Hid ((w.alloc (.cells #[.int .u8 op] 5 (0, 0))).heap[w.heap.size]? = some (.cells #[.int .u8 op] 5 (0, 0))) := heap_alloc_new w _
  have x0 := cell_at (j := 0) HBX.out rfl
  have HROW : Hid (((w.alloc (.cells #[.int .u8 op] 5 (0, 0))).alloc (.cells #[.int .u32 f, .int .u32 g] 27 (0, 0))).ownsRow 0 27 1 (.slice (some ⟨w.heap.size + 1, 0, none⟩) 2 2) [f, g].length (flatRefs [f, g])) := by
    have := World.ownsRow_lit (base := 0) (e := 27) (size := 1) (w.alloc (.cells #[.int .u8 op] 5 (0, 0))) #[.int .u32 f, .int .u32 g] 2 (Nat.zero_le _) (by unfold maxLen; omega) rfl
    rw [World.size_alloc] at this
    exact this
  have HU : Hid (Upd [] w ((w.alloc (.cells #[.int .u8 op] 5 (0, 0))).alloc (.cells #[.int .u32 f, .int .u32 g] 27 (0, 0)))) := ((Upd.refl [] w).alloc _).alloc _
  have HBAD : Hid (∃ m f0, (∀ (j r : Nat), j < m → [f, g][j]? = some r → K.A.tk r = true) ∧ [f, g][m]? = some f0 ∧ K.A.tk f0 = false ∧ f0 ≤ 4294967295) := by
    cases hf : K.A.tk f with
    | false => exact ⟨0, f, fun j r hj => by omega, rfl, hf, hf32⟩
    | true =>
      refine ⟨1, g, fun j r hj hr => ?_, rfl, hd.resolve_left (by rw [hf]; simp), hg32⟩
      obtain rfl : j = 0 := by omega
      simp at hr; subst hr; exact hf
  obtain ⟨m, f0, hm1, hm2, hm3, hm4⟩ := HBAD.out
  have HM := Lib.hid (And.intro hm1 (And.intro hm2 hm3))
  clear h hd hm1 hm2 hm3
  go_enter Try.func21, Try.ntmps21
  go_wp2_with fail
  refine (begin_no b K T q _ [f, g] m f0 _ (HK.out.upd HU.out (by simp)) HROW.out HM.out.1 HM.out.2.1 HM.out.2.2 hm4 (by simp)).mono ?_
  rintro e w1 ⟨rfl, hu⟩
  have HU2 := Lib.hid (HU.out.trans hu)
  clear hu x0
  go_wp2_with fail
  go_ret2
  exact ⟨rfl, HU2.out⟩

/-! ### if-then-else -/

set_option maxRecDepth 100000 in
set_option maxHeartbeats 1600000 in
theorem ite_live (b f g h : Nat) (K : KV) (T : List DM) (q : KPtr) (w : World) (hk : KerIn w b K T q) (hf : K.A.tk f = true) (hg : K.A.tk g = true) (hh : K.A.tk h = true) :
    Calls Try.prog 15 #[.pointer (some ⟨b, 0, none⟩), .int .u32 f, .int .u32 g, .int .u32 h] w fun e w' => OpPost b K q (K.fun3 (fun x y z => if x then y else z) f g h) w e w' := by
  have HK := Lib.hid hk
  have HA : Hid (AskQ K f g h) := ⟨hf, hg, hh⟩
  have HROW : Hid ((w.alloc (.cells #[.int .u32 f, .int .u32 g, .int .u32 h] 27 (0, 0))).ownsRow 0 27 1 (.slice (some ⟨w.heap.size, 0, none⟩) 3 3) [f, g, h].length (flatRefs [f, g, h])) :=
    World.ownsRow_lit (base := 0) (e := 27) (size := 1) w #[.int .u32 f, .int .u32 g, .int .u32 h] 3 (Nat.zero_le _) (by unfold maxLen; omega) rfl
  have HU : Hid (Upd [] w (w.alloc (.cells #[.int .u32 f, .int .u32 g, .int .u32 h] 27 (0, 0)))) := (Upd.refl [] w).alloc _
  have HL : Hid (∀ r, r ∈ [f, g, h] → K.A.tk r = true) := fun r hr => by
    simp only [List.mem_cons, List.not_mem_nil, or_false] at hr
    rcases hr with rfl | rfl | rfl
    · exact hf
    · exact hg
    · exact hh
  clear hk hf hg hh
  go_enter Try.func15, Try.ntmps15
  go_wp2_with fail
  refine (begin_ok b K T q _ [f, g, h] _ (HK.out.upd HU.out (by simp)) HROW.out HL.out (by simp)).mono ?_
  rintro e w1 ⟨wb, lvv, rfl, hW, hu, hF⟩
  have hsz := HU.out.size
  have HW := Lib.hid (And.intro hW (And.intro (HU.out.trans hu) (fun k hk => Nat.le_trans hsz (hF k hk) : ∀ k, k ∈ workF wb lvv (.slice none 0 0) → w.heap.size ≤ k)))
  have HLF : Hid (LeafOk w1 37 #[] [] (fun x y z => if x then y else z)) := fun w' _ x y z => leafI_spec x y z w'
  clear hW hu hF
  go_wp2_with fail
  refine (wrun_spec wb b 37 f g h #[] [] (fun x y z => if x then y else z) K T q lvv w1 HW.out.1 HA.out HLF.out (fun k hk => by simp at hk) (fun k _ hk => by simp at hk) enters_I).mono ?_
  rintro e w2 hR
  obtain ⟨r, code, K', T', q', rfl, hE⟩ := (OpPost.of_run HK.out.ok HA.out HW.out.2.1 HW.out.2.2 hR).ex
  have HE := Lib.hid hE
  clear hR hE
  go_wp2_with fail
  go_ret2
  exact ⟨r, code, K', T', q', rfl, HE.out⟩

/-! ### of no kernel -/

set_option maxRecDepth 100000 in
theorem binary_nil (op : Int) (f g : Int) (w : World) : Calls Try.prog 21 #[.pointer none, .int .u8 op, .int .u32 f, .int .u32 g] w fun e w' => e = .returned (.tuple #[.int .u32 0, .int .i64 10]) ∧ Upd [] w w' := by
  go_enter Try.func21, Try.ntmps21
  go_wp2_with fail
  go_ret2
  exact ⟨rfl, (Upd.refl _ _).alloc _⟩

set_option maxRecDepth 100000 in
theorem begin_nil (lv : Value) (w : World) : Calls Try.prog 35 #[.pointer none, lv] w fun e w' => e = .returned (.tuple #[.pointer none, .int .i64 10]) ∧ w' = w := by
  go_enter Try.func35, Try.ntmps35
  go_wp2_with fail
  go_ret2
  exact ⟨rfl, rfl⟩

set_option maxRecDepth 100000 in
theorem ite_nil (f g h : Int) (w : World) : Calls Try.prog 15 #[.pointer none, .int .u32 f, .int .u32 g, .int .u32 h] w fun e w' => e = .returned (.tuple #[.int .u32 0, .int .i64 10]) ∧ Upd [] w w' := by
  go_enter Try.func15, Try.ntmps15
  go_wp2_with fail
  refine (begin_nil _ _).mono ?_
  rintro e w1 ⟨rfl, rfl⟩
  go_wp2_with fail
  go_ret2
  exact ⟨rfl, (Upd.refl _ _).alloc _⟩
end Go.Proofs.Ytnenhecnkidnpaa
