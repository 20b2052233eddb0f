/- The kernel's New. -/
import Derived.Test.YtnenhecnkidnpaaKD
import Derived.Deep.RegionHeld3
namespace Go.Proofs.Ytnenhecnkidnpaa
open Go.RowKit Go.Maps Go.ChangeMaps Go.WideShapes

/-- all parts stand apart -/
theorem knew_end {n m g tb a g2 cap2 : Nat} {w w1 w2 w3 w5 : World} {FT FA : List Nat} (h1 : 1 ≤ n) (hn : n ≤ 64) (h2 : 2 ≤ m) (hm : m ≤ 1048576)
    (ho : w1.ownsRow w.heap.size 3 1 (.slice (some ⟨g, 0, none⟩) n n) n (flatN (List.range n))) (u1 : Upd [] w w1) (hgl : w.heap.size ≤ g ∧ g < w1.heap.size)
    (ht : TabAt w2 tb (List.replicate n (.map [])) FT) (u2 : Upd [] w1 w2) (s2 : Sub [] w1 FT) (ha : ArenaAt w3 a (ArenaV.new m) FA) (u3 : Upd [] w2 w3) (s3 : Sub [] w2 FA)
    (u5 : Upd [] w3 w5) (ho2 : w5.ownsRow (w3.heap.size + 1) 3 1 (.slice (some ⟨g2, 0, none⟩) n cap2) n (flatN (List.range n))) :
    KerIn (w5.alloc (.cells #[.pointer (some ⟨a, 0, none⟩), .pointer (some ⟨tb, 0, none⟩), .slice none 0 0, .slice none 0 0, .int .i64 n, .slice (some ⟨g, 0, none⟩) n n, .slice (some ⟨g2, 0, none⟩) n cap2, .slice none 0 0] 75)) w5.heap.size (KV.new n m) (List.replicate n (.map []))
      ⟨a, tb, .slice none 0 0, .slice none 0 0, .slice (some ⟨g, 0, none⟩) n n, .slice (some ⟨g2, 0, none⟩) n cap2, .slice none 0 0, FA, FT, fun k => if k < w1.heap.size then 5 else if k < w2.heap.size then 2 else if k < w3.heap.size then 1 else if k < w5.heap.size then 6 else 0⟩ ∧
    Upd [] w (w5.alloc (.cells #[.pointer (some ⟨a, 0, none⟩), .pointer (some ⟨tb, 0, none⟩), .slice none 0 0, .slice none 0 0, .int .i64 n, .slice (some ⟨g, 0, none⟩) n n, .slice (some ⟨g2, 0, none⟩) n cap2, .slice none 0 0] 75)) ∧
    Sub [] w ((⟨a, tb, .slice none 0 0, .slice none 0 0, .slice (some ⟨g, 0, none⟩) n n, .slice (some ⟨g2, 0, none⟩) n cap2, .slice none 0 0, FA, FT, fun k => if k < w1.heap.size then 5 else if k < w2.heap.size then 2 else if k < w3.heap.size then 1 else if k < w5.heap.size then 6 else 0⟩ : KPtr).all w5.heap.size) := by
  have z1 := u1.size
  have z2 := u2.size
  have z3 := u3.size
  have z5 := u5.size
  have hg2 := ho2.lt g2 rfl
  have lT := ht.lt
  have lA := ha.lt
  have sT : ∀ k, k ∈ FT → w1.heap.size ≤ k := fun k hk => (s2 k hk).elim (fun h => by simp at h) id
  have sA : ∀ k, k ∈ FA → w2.heap.size ≤ k := fun k hk => (s3 k hk).elim (fun h => by simp at h) id
  have U := (u5.alloc (.cells #[.pointer (some ⟨a, 0, none⟩), .pointer (some ⟨tb, 0, none⟩), .slice none 0 0, .slice none 0 0, .int .i64 n, .slice (some ⟨g, 0, none⟩) n n, .slice (some ⟨g2, 0, none⟩) n cap2, .slice none 0 0] 75))
  refine ⟨⟨⟨heap_alloc_new w5 _, ha.upd U (by simp), ht.upd (u3.trans U) (by simp), World.ownsRow_nil _ _ _ _, World.ownsRow_nil _ _ _ _, ?_, ?_, World.ownsRow_nil _ _ _ _, ?_, ?_, ?_, ?_, ?_, ?_, ?_, ?_⟩, TInv.new n m, KV.new_ok h1 hn h2 hm⟩, ?_, ?_⟩
  · have e : (KV.new n m).order.length = n := by simp [KV.new]
    rw [e]
    refine row_keep (row_base ho (Nat.zero_le _)) fun k hk => ?_
    simp [Value.ownBlock] at hk; subst hk
    rw [U.block _ (by omega) (by simp), u3.block _ (by omega) (by simp), u2.block _ hgl.2 (by simp)]
  · have e : (KV.new n m).level.length = n := by simp [KV.new]
    rw [e]
    exact (row_base ho2 (Nat.zero_le _)).alloc _
  · show (if _ then _ else _) = 0
    rw [if_neg (by omega), if_neg (by omega), if_neg (by omega), if_neg (by omega)]
  · intro k hk
    have := sA k hk; have := lA k hk
    show (if _ then _ else _) = 1
    rw [if_neg (by omega), if_neg (by omega), if_pos (by omega)]
  · intro k hk
    have := sT k hk; have := lT k hk
    show (if _ then _ else _) = 2
    rw [if_neg (by omega), if_pos (by omega)]
  · intro k hk; simp [Value.ownBlock] at hk
  · intro k hk; simp [Value.ownBlock] at hk
  · intro k hk
    simp [Value.ownBlock] at hk; subst hk
    show (if _ then _ else _) = 5
    rw [if_pos hgl.2]
  · intro k hk
    simp [Value.ownBlock] at hk; subst hk
    show (if _ then _ else _) = 6
    rw [if_neg (by omega), if_neg (by omega), if_neg (by omega), if_pos hg2.2]
  · intro k hk; simp [Value.ownBlock] at hk
  · exact u1.trans (u2.trans (u3.trans U))
  · intro k hk
    right
    simp only [KPtr.mem, Value.ownBlock] at hk
    simp at hk
    rcases hk with rfl | hk | hk | hk | hk
    · omega
    · have := sA k hk; omega
    · have := sT k hk; omega
    · omega
    · omega

set_option maxRecDepth 100000 in
set_option maxHeartbeats 1600000 in
theorem knew_spec (n m : Nat) (w : World) (h1 : 1 ≤ n) (hn : n ≤ 64) (h2 : 2 ≤ m) (hm : m ≤ 1048576) :
    Calls Try.prog 11 #[.int .i64 n, .int .i64 m] w fun e w' => ∃ (b : Nat) (T : List DM) (q : KPtr), e = .returned (.tuple #[.pointer (some ⟨b, 0, none⟩), .int .i64 0]) ∧ KerIn w' b (KV.new n m) T q ∧ Upd [] w w' ∧ Sub [] w (q.all b) := by
  have hd1 : decide ((n : Int) < 1) = false := by simp; omega
  have hd2 : decide ((m : Int) < 2) = false := by simp; omega
  have hd3 : decide ((1048576 : Int) < (m : Int)) = false := by simp; omega
  have hd4 : decide (1048576 < m) = false := by simp; omega
  have hd5 : decide (m < 2) = false := by simp; omega
  have hd6 : decide (n < 1) = false := by simp; omega
  go_enter Try.func11, Try.ntmps11
  go_wp2_with fail
  refine (ident_ok n w hn).mono ?_
  rintro e w1 ⟨g, rfl, ho, hu⟩
  have hgl := ho.lt g rfl
  have HO := Lib.hid (And.intro ho hu)
  clear ho hu
  go_wp2_with fail
  refine (tnew_spec n _ h1 hn).mono ?_
  rintro e w2 ⟨tb, FT, rfl, ht, hu2, hs2⟩
  have HT := Lib.hid (And.intro ht (And.intro hu2 hs2))
  clear ht hu2 hs2
  go_wp2_with fail
  refine (newStore_spec m tb _ h2 hm).mono ?_
  rintro e w3 ⟨a, FA, rfl, ha, hu3, hs3⟩
  have HA := Lib.hid (And.intro ha (And.intro hu3 hs3))
  clear ha hu3 hs3
  have HN := heap_alloc_new w3 (.cells #[.pointer (some ⟨a, 0, none⟩), .pointer (some ⟨tb, 0, none⟩), .slice none 0 0, .slice none 0 0] 70)
  have HCL : Hid (Calls Try.prog 33 #[.slice (some ⟨g, 0, none⟩) n n] (w3.alloc (.cells #[.pointer (some ⟨a, 0, none⟩), .pointer (some ⟨tb, 0, none⟩), .slice none 0 0, .slice none 0 0] 70)).drew fun e w' =>
      ∃ (g2 cap : Nat), e = .returned (.slice (some ⟨g2, 0, none⟩) n cap) ∧ w'.ownsRow (w3.heap.size + 1) 3 1 (.slice (some ⟨g2, 0, none⟩) n cap) n (flatN (List.range n)) ∧ Upd [] (w3.alloc (.cells #[.pointer (some ⟨a, 0, none⟩), .pointer (some ⟨tb, 0, none⟩), .slice none 0 0, .slice none 0 0] 70)).drew w') := by
    have hs2 := HT.out.2.1
    have hs3 := HA.out.2.1
    have hrow : (w3.alloc (.cells #[.pointer (some ⟨a, 0, none⟩), .pointer (some ⟨tb, 0, none⟩), .slice none 0 0, .slice none 0 0] 70)).drew.ownsRow 0 3 1 (.slice (some ⟨g, 0, none⟩) n n) (List.range n).length (flatN (List.range n)) := by
      rw [List.length_range]
      refine row_drew ((row_keep (row_base HO.out.1 (Nat.zero_le _)) fun k hk => ?_).alloc _)
      simp [Value.ownBlock] at hk; subst hk
      rw [hs3.block _ (by have := hs2.size; omega) (by simp), hs2.block _ hgl.2 (by simp)]
    refine (clone_spec _ (List.range n) _ hrow (by simpa using h1) (by simp; omega)).mono ?_
    rintro e w' ⟨g2, cap, rfl, ho, hu⟩
    refine ⟨g2, cap, by rw [List.length_range], ?_, hu⟩
    rw [List.length_range] at ho
    refine row_base ho ?_
    show _ ≤ (w3.alloc _).heap.size
    rw [World.size_alloc]; omega
  obtain ⟨x0, x1, x2, x3⟩ : (w3.alloc (.cells #[.pointer (some ⟨a, 0, none⟩), .pointer (some ⟨tb, 0, none⟩), .slice none 0 0, .slice none 0 0] 70)).drew.cell? ⟨w3.heap.size, 0, none⟩ = some (.pointer (some ⟨a, 0, none⟩)) ∧
      (w3.alloc (.cells #[.pointer (some ⟨a, 0, none⟩), .pointer (some ⟨tb, 0, none⟩), .slice none 0 0, .slice none 0 0] 70)).drew.cell? ⟨w3.heap.size, 1, none⟩ = some (.pointer (some ⟨tb, 0, none⟩)) ∧
      (w3.alloc (.cells #[.pointer (some ⟨a, 0, none⟩), .pointer (some ⟨tb, 0, none⟩), .slice none 0 0, .slice none 0 0] 70)).drew.cell? ⟨w3.heap.size, 2, none⟩ = some (.slice none 0 0) ∧
      (w3.alloc (.cells #[.pointer (some ⟨a, 0, none⟩), .pointer (some ⟨tb, 0, none⟩), .slice none 0 0, .slice none 0 0] 70)).drew.cell? ⟨w3.heap.size, 3, none⟩ = some (.slice none 0 0) := ⟨cell_at HN rfl, cell_at HN rfl, cell_at HN rfl, cell_at HN rfl⟩
  have HN := Lib.hid HN
  go_wp2_with fail
  go_region_held3 (fun w' => w'.cell? ⟨w3.heap.size, 0, none⟩ = some (.pointer (some ⟨a, 0, none⟩)) ∧ w'.cell? ⟨w3.heap.size, 1, none⟩ = some (.pointer (some ⟨tb, 0, none⟩)) ∧ w'.cell? ⟨w3.heap.size, 2, none⟩ = some (.slice none 0 0) ∧ w'.cell? ⟨w3.heap.size, 3, none⟩ = some (.slice none 0 0)) (first | exact ⟨x0, x1, x2, x3⟩ | exact held4 HC.out.2 x0 x1 x2 x3 (by simp) (by simp) (by simp) (by simp) | exact held4 (HC.out.2.alloc _) x0 x1 x2 x3 (by simp) (by simp) (by simp) (by simp)) (first | (go_at_call 33; refine HCL.out.mono ?_; rintro e w5 ⟨g2, cap2, rfl, ho2, hu5⟩; have HC := Lib.hid (And.intro ho2 hu5); clear ho2 hu5))
  have HE := Lib.hid (knew_end h1 hn h2 hm HO.out.1 HO.out.2 hgl HT.out.1 HT.out.2.1 HT.out.2.2 HA.out.1 HA.out.2.1 HA.out.2.2 ((((Upd.refl [] w3).alloc _).drew).trans HC.out.2) HC.out.1)
  clear HC HCL HN HA HT HO
  go_wp2_with fail
  go_ret2
  exact ⟨_, _, _, rfl, HE.out⟩
end Go.Proofs.Ytnenhecnkidnpaa
