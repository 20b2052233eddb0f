/- An operation's run. -/
import Derived.Test.YtnenhecnkidnpaaAL
namespace Go.Proofs.Ytnenhecnkidnpaa
open Go.RowKit Go.Maps Go.ChangeMaps Go.WideShapes

theorem enters_go : Enters 56 := fun args w => by
  simp [go_sem]

theorem KV.mix_zero (K : KV) (a x : Nat → Bool) : K.mix 0 a x = x := by funext v; simp [KV.mix]

theorem own_empty {W : World} {mb : Nat} (h : W.heap[mb]? = some (.map #[] 0)) : W.ownsMap Try.prog 82 (plainElem (H := Unit) Try.prog 27) mb 0 (.map []) := by
  obtain ⟨es, clock, q1, q2, q3, q4⟩ := World.ownsMap_made W Try.prog 82 (plainElem (H := Unit) Try.prog 27)
  rw [heap_alloc_new] at q1
  cases q1
  exact ⟨#[], 0, h, q2, Nat.zero_le _, rfl⟩

/-- the memory that a run lays out -/
structure RunB (w : World) (wb f g h fl : Nat) (caps : Array Value) (W : World) : Prop where
  b0 : W.heap[w.heap.size]? = some (.cells #[.pointer (some ⟨wb, 0, none⟩)] 77 (0, 0))
  b1 : W.heap[w.heap.size + 1]? = some (.cells #[.int .u32 f, .int .u32 g, .int .u32 h] 82 (0, 0))
  b2 : W.heap[w.heap.size + 1 + 1]? = some (.cells #[.func (Fn.func fl) #[] caps] 83 (0, 0))
  b3 : W.heap[w.heap.size + 1 + 1 + 1]? = some (.cells #[.int .u32 0] 27 (0, 0))
  b4 : W.heap[w.heap.size + 1 + 1 + 1 + 1]? = some (.cells #[.int .i64 0] 28 (0, 0))
  b5 : W.heap[w.heap.size + 1 + 1 + 1 + 1 + 1]? = some (.map #[] 0)
  b6 : W.heap[w.heap.size + 1 + 1 + 1 + 1 + 1 + 1]? = some (.cells #[.map (some (w.heap.size + 1 + 1 + 1 + 1 + 1))] 106 (0, 0))
  b7 : W.heap[w.heap.size + 1 + 1 + 1 + 1 + 1 + 1 + 1]? = some (.cells #[(.func (Fn.func 56) #[] #[.pointer (some ⟨w.heap.size + 1 + 1 + 1 + 1 + 1 + 1, 0, none⟩), .pointer (some ⟨w.heap.size, 0, none⟩), .pointer (some ⟨w.heap.size + 1 + 1, 0, none⟩), .pointer (some ⟨w.heap.size + 1 + 1 + 1 + 1 + 1 + 1 + 1, 0, none⟩)])] 107 (0, 0))
  up : Upd [] w W

theorem run_laid (w : World) (wb f g h fl : Nat) (caps : Array Value) : ((((((((((((((w.alloc (.cells #[.pointer (some ⟨wb, 0, none⟩)] 77 (0, 0)))).alloc (.cells #[.int .u32 f, .int .u32 g, .int .u32 h] 82 (0, 0)))).alloc (.cells #[.func (Fn.func fl) #[] caps] 83 (0, 0)))).alloc (.cells #[.int .u32 0] 27 (0, 0)))).alloc (.cells #[.int .i64 0] 28 (0, 0)))).alloc (.map #[] 0))).alloc (.cells #[.map (some (w.heap.size + 1 + 1 + 1 + 1 + 1))] 106 (0, 0))).alloc (.cells #[.nilFunc] 107 (0, 0))).heap[w.heap.size + 1 + 1 + 1 + 1 + 1 + 1 + 1]? = some (.cells #[.nilFunc] 107 (0, 0)) ∧ RunB w wb f g h fl caps (((((((((((((((w.alloc (.cells #[.pointer (some ⟨wb, 0, none⟩)] 77 (0, 0)))).alloc (.cells #[.int .u32 f, .int .u32 g, .int .u32 h] 82 (0, 0)))).alloc (.cells #[.func (Fn.func fl) #[] caps] 83 (0, 0)))).alloc (.cells #[.int .u32 0] 27 (0, 0)))).alloc (.cells #[.int .i64 0] 28 (0, 0)))).alloc (.map #[] 0))).alloc (.cells #[.map (some (w.heap.size + 1 + 1 + 1 + 1 + 1))] 106 (0, 0)))).alloc (.cells #[(.func (Fn.func 56) #[] #[.pointer (some ⟨w.heap.size + 1 + 1 + 1 + 1 + 1 + 1, 0, none⟩), .pointer (some ⟨w.heap.size, 0, none⟩), .pointer (some ⟨w.heap.size + 1 + 1, 0, none⟩), .pointer (some ⟨w.heap.size + 1 + 1 + 1 + 1 + 1 + 1 + 1, 0, none⟩)])] 107 (0, 0))) := by
  have z0 : w.heap.size = w.heap.size := by first | rfl | simp only [World.size_alloc]
  have n0 : (w.alloc (.cells #[.pointer (some ⟨wb, 0, none⟩)] 77 (0, 0))).heap[w.heap.size]? = some (.cells #[.pointer (some ⟨wb, 0, none⟩)] 77 (0, 0)) := by
    have e := heap_alloc_new w (.cells #[.pointer (some ⟨wb, 0, none⟩)] 77 (0, 0))
    rw [z0] at e; exact e
  have n0_1 : (((w.alloc (.cells #[.pointer (some ⟨wb, 0, none⟩)] 77 (0, 0)))).alloc (.cells #[.int .u32 f, .int .u32 g, .int .u32 h] 82 (0, 0))).heap[w.heap.size]? = some (.cells #[.pointer (some ⟨wb, 0, none⟩)] 77 (0, 0)) := (heap_alloc_old _ _ (heap_lt n0)).trans n0
  have n0_2 : (((((w.alloc (.cells #[.pointer (some ⟨wb, 0, none⟩)] 77 (0, 0)))).alloc (.cells #[.int .u32 f, .int .u32 g, .int .u32 h] 82 (0, 0)))).alloc (.cells #[.func (Fn.func fl) #[] caps] 83 (0, 0))).heap[w.heap.size]? = some (.cells #[.pointer (some ⟨wb, 0, none⟩)] 77 (0, 0)) := (heap_alloc_old _ _ (heap_lt n0_1)).trans n0_1
  have n0_3 : (((((((w.alloc (.cells #[.pointer (some ⟨wb, 0, none⟩)] 77 (0, 0)))).alloc (.cells #[.int .u32 f, .int .u32 g, .int .u32 h] 82 (0, 0)))).alloc (.cells #[.func (Fn.func fl) #[] caps] 83 (0, 0)))).alloc (.cells #[.int .u32 0] 27 (0, 0))).heap[w.heap.size]? = some (.cells #[.pointer (some ⟨wb, 0, none⟩)] 77 (0, 0)) := (heap_alloc_old _ _ (heap_lt n0_2)).trans n0_2
  have n0_4 : (((((((((w.alloc (.cells #[.pointer (some ⟨wb, 0, none⟩)] 77 (0, 0)))).alloc (.cells #[.int .u32 f, .int .u32 g, .int .u32 h] 82 (0, 0)))).alloc (.cells #[.func (Fn.func fl) #[] caps] 83 (0, 0)))).alloc (.cells #[.int .u32 0] 27 (0, 0)))).alloc (.cells #[.int .i64 0] 28 (0, 0))).heap[w.heap.size]? = some (.cells #[.pointer (some ⟨wb, 0, none⟩)] 77 (0, 0)) := (heap_alloc_old _ _ (heap_lt n0_3)).trans n0_3
  have n0_5 : (((((((((((w.alloc (.cells #[.pointer (some ⟨wb, 0, none⟩)] 77 (0, 0)))).alloc (.cells #[.int .u32 f, .int .u32 g, .int .u32 h] 82 (0, 0)))).alloc (.cells #[.func (Fn.func fl) #[] caps] 83 (0, 0)))).alloc (.cells #[.int .u32 0] 27 (0, 0)))).alloc (.cells #[.int .i64 0] 28 (0, 0)))).alloc (.map #[] 0)).heap[w.heap.size]? = some (.cells #[.pointer (some ⟨wb, 0, none⟩)] 77 (0, 0)) := (heap_alloc_old _ _ (heap_lt n0_4)).trans n0_4
  have n0_6 : (((((((((((((w.alloc (.cells #[.pointer (some ⟨wb, 0, none⟩)] 77 (0, 0)))).alloc (.cells #[.int .u32 f, .int .u32 g, .int .u32 h] 82 (0, 0)))).alloc (.cells #[.func (Fn.func fl) #[] caps] 83 (0, 0)))).alloc (.cells #[.int .u32 0] 27 (0, 0)))).alloc (.cells #[.int .i64 0] 28 (0, 0)))).alloc (.map #[] 0))).alloc (.cells #[.map (some (w.heap.size + 1 + 1 + 1 + 1 + 1))] 106 (0, 0))).heap[w.heap.size]? = some (.cells #[.pointer (some ⟨wb, 0, none⟩)] 77 (0, 0)) := (heap_alloc_old _ _ (heap_lt n0_5)).trans n0_5
  have n0_7 : (((((((((((((((w.alloc (.cells #[.pointer (some ⟨wb, 0, none⟩)] 77 (0, 0)))).alloc (.cells #[.int .u32 f, .int .u32 g, .int .u32 h] 82 (0, 0)))).alloc (.cells #[.func (Fn.func fl) #[] caps] 83 (0, 0)))).alloc (.cells #[.int .u32 0] 27 (0, 0)))).alloc (.cells #[.int .i64 0] 28 (0, 0)))).alloc (.map #[] 0))).alloc (.cells #[.map (some (w.heap.size + 1 + 1 + 1 + 1 + 1))] 106 (0, 0)))).alloc (.cells #[(.func (Fn.func 56) #[] #[.pointer (some ⟨w.heap.size + 1 + 1 + 1 + 1 + 1 + 1, 0, none⟩), .pointer (some ⟨w.heap.size, 0, none⟩), .pointer (some ⟨w.heap.size + 1 + 1, 0, none⟩), .pointer (some ⟨w.heap.size + 1 + 1 + 1 + 1 + 1 + 1 + 1, 0, none⟩)])] 107 (0, 0))).heap[w.heap.size]? = some (.cells #[.pointer (some ⟨wb, 0, none⟩)] 77 (0, 0)) := (heap_alloc_old _ _ (heap_lt n0_6)).trans n0_6
  have z1 : (w.alloc (.cells #[.pointer (some ⟨wb, 0, none⟩)] 77 (0, 0))).heap.size = w.heap.size + 1 := by first | rfl | simp only [World.size_alloc]
  have n1 : (((w.alloc (.cells #[.pointer (some ⟨wb, 0, none⟩)] 77 (0, 0)))).alloc (.cells #[.int .u32 f, .int .u32 g, .int .u32 h] 82 (0, 0))).heap[w.heap.size + 1]? = some (.cells #[.int .u32 f, .int .u32 g, .int .u32 h] 82 (0, 0)) := by
    have e := heap_alloc_new (w.alloc (.cells #[.pointer (some ⟨wb, 0, none⟩)] 77 (0, 0))) (.cells #[.int .u32 f, .int .u32 g, .int .u32 h] 82 (0, 0))
    rw [z1] at e; exact e
  have n1_2 : (((((w.alloc (.cells #[.pointer (some ⟨wb, 0, none⟩)] 77 (0, 0)))).alloc (.cells #[.int .u32 f, .int .u32 g, .int .u32 h] 82 (0, 0)))).alloc (.cells #[.func (Fn.func fl) #[] caps] 83 (0, 0))).heap[w.heap.size + 1]? = some (.cells #[.int .u32 f, .int .u32 g, .int .u32 h] 82 (0, 0)) := (heap_alloc_old _ _ (heap_lt n1)).trans n1
  have n1_3 : (((((((w.alloc (.cells #[.pointer (some ⟨wb, 0, none⟩)] 77 (0, 0)))).alloc (.cells #[.int .u32 f, .int .u32 g, .int .u32 h] 82 (0, 0)))).alloc (.cells #[.func (Fn.func fl) #[] caps] 83 (0, 0)))).alloc (.cells #[.int .u32 0] 27 (0, 0))).heap[w.heap.size + 1]? = some (.cells #[.int .u32 f, .int .u32 g, .int .u32 h] 82 (0, 0)) := (heap_alloc_old _ _ (heap_lt n1_2)).trans n1_2
  have n1_4 : (((((((((w.alloc (.cells #[.pointer (some ⟨wb, 0, none⟩)] 77 (0, 0)))).alloc (.cells #[.int .u32 f, .int .u32 g, .int .u32 h] 82 (0, 0)))).alloc (.cells #[.func (Fn.func fl) #[] caps] 83 (0, 0)))).alloc (.cells #[.int .u32 0] 27 (0, 0)))).alloc (.cells #[.int .i64 0] 28 (0, 0))).heap[w.heap.size + 1]? = some (.cells #[.int .u32 f, .int .u32 g, .int .u32 h] 82 (0, 0)) := (heap_alloc_old _ _ (heap_lt n1_3)).trans n1_3
  have n1_5 : (((((((((((w.alloc (.cells #[.pointer (some ⟨wb, 0, none⟩)] 77 (0, 0)))).alloc (.cells #[.int .u32 f, .int .u32 g, .int .u32 h] 82 (0, 0)))).alloc (.cells #[.func (Fn.func fl) #[] caps] 83 (0, 0)))).alloc (.cells #[.int .u32 0] 27 (0, 0)))).alloc (.cells #[.int .i64 0] 28 (0, 0)))).alloc (.map #[] 0)).heap[w.heap.size + 1]? = some (.cells #[.int .u32 f, .int .u32 g, .int .u32 h] 82 (0, 0)) := (heap_alloc_old _ _ (heap_lt n1_4)).trans n1_4
  have n1_6 : (((((((((((((w.alloc (.cells #[.pointer (some ⟨wb, 0, none⟩)] 77 (0, 0)))).alloc (.cells #[.int .u32 f, .int .u32 g, .int .u32 h] 82 (0, 0)))).alloc (.cells #[.func (Fn.func fl) #[] caps] 83 (0, 0)))).alloc (.cells #[.int .u32 0] 27 (0, 0)))).alloc (.cells #[.int .i64 0] 28 (0, 0)))).alloc (.map #[] 0))).alloc (.cells #[.map (some (w.heap.size + 1 + 1 + 1 + 1 + 1))] 106 (0, 0))).heap[w.heap.size + 1]? = some (.cells #[.int .u32 f, .int .u32 g, .int .u32 h] 82 (0, 0)) := (heap_alloc_old _ _ (heap_lt n1_5)).trans n1_5
  have n1_7 : (((((((((((((((w.alloc (.cells #[.pointer (some ⟨wb, 0, none⟩)] 77 (0, 0)))).alloc (.cells #[.int .u32 f, .int .u32 g, .int .u32 h] 82 (0, 0)))).alloc (.cells #[.func (Fn.func fl) #[] caps] 83 (0, 0)))).alloc (.cells #[.int .u32 0] 27 (0, 0)))).alloc (.cells #[.int .i64 0] 28 (0, 0)))).alloc (.map #[] 0))).alloc (.cells #[.map (some (w.heap.size + 1 + 1 + 1 + 1 + 1))] 106 (0, 0)))).alloc (.cells #[(.func (Fn.func 56) #[] #[.pointer (some ⟨w.heap.size + 1 + 1 + 1 + 1 + 1 + 1, 0, none⟩), .pointer (some ⟨w.heap.size, 0, none⟩), .pointer (some ⟨w.heap.size + 1 + 1, 0, none⟩), .pointer (some ⟨w.heap.size + 1 + 1 + 1 + 1 + 1 + 1 + 1, 0, none⟩)])] 107 (0, 0))).heap[w.heap.size + 1]? = some (.cells #[.int .u32 f, .int .u32 g, .int .u32 h] 82 (0, 0)) := (heap_alloc_old _ _ (heap_lt n1_6)).trans n1_6
  have z2 : (((w.alloc (.cells #[.pointer (some ⟨wb, 0, none⟩)] 77 (0, 0)))).alloc (.cells #[.int .u32 f, .int .u32 g, .int .u32 h] 82 (0, 0))).heap.size = w.heap.size + 1 + 1 := by first | rfl | simp only [World.size_alloc]
  have n2 : (((((w.alloc (.cells #[.pointer (some ⟨wb, 0, none⟩)] 77 (0, 0)))).alloc (.cells #[.int .u32 f, .int .u32 g, .int .u32 h] 82 (0, 0)))).alloc (.cells #[.func (Fn.func fl) #[] caps] 83 (0, 0))).heap[w.heap.size + 1 + 1]? = some (.cells #[.func (Fn.func fl) #[] caps] 83 (0, 0)) := by
    have e := heap_alloc_new (((w.alloc (.cells #[.pointer (some ⟨wb, 0, none⟩)] 77 (0, 0)))).alloc (.cells #[.int .u32 f, .int .u32 g, .int .u32 h] 82 (0, 0))) (.cells #[.func (Fn.func fl) #[] caps] 83 (0, 0))
    rw [z2] at e; exact e
  have n2_3 : (((((((w.alloc (.cells #[.pointer (some ⟨wb, 0, none⟩)] 77 (0, 0)))).alloc (.cells #[.int .u32 f, .int .u32 g, .int .u32 h] 82 (0, 0)))).alloc (.cells #[.func (Fn.func fl) #[] caps] 83 (0, 0)))).alloc (.cells #[.int .u32 0] 27 (0, 0))).heap[w.heap.size + 1 + 1]? = some (.cells #[.func (Fn.func fl) #[] caps] 83 (0, 0)) := (heap_alloc_old _ _ (heap_lt n2)).trans n2
  have n2_4 : (((((((((w.alloc (.cells #[.pointer (some ⟨wb, 0, none⟩)] 77 (0, 0)))).alloc (.cells #[.int .u32 f, .int .u32 g, .int .u32 h] 82 (0, 0)))).alloc (.cells #[.func (Fn.func fl) #[] caps] 83 (0, 0)))).alloc (.cells #[.int .u32 0] 27 (0, 0)))).alloc (.cells #[.int .i64 0] 28 (0, 0))).heap[w.heap.size + 1 + 1]? = some (.cells #[.func (Fn.func fl) #[] caps] 83 (0, 0)) := (heap_alloc_old _ _ (heap_lt n2_3)).trans n2_3
  have n2_5 : (((((((((((w.alloc (.cells #[.pointer (some ⟨wb, 0, none⟩)] 77 (0, 0)))).alloc (.cells #[.int .u32 f, .int .u32 g, .int .u32 h] 82 (0, 0)))).alloc (.cells #[.func (Fn.func fl) #[] caps] 83 (0, 0)))).alloc (.cells #[.int .u32 0] 27 (0, 0)))).alloc (.cells #[.int .i64 0] 28 (0, 0)))).alloc (.map #[] 0)).heap[w.heap.size + 1 + 1]? = some (.cells #[.func (Fn.func fl) #[] caps] 83 (0, 0)) := (heap_alloc_old _ _ (heap_lt n2_4)).trans n2_4
  have n2_6 : (((((((((((((w.alloc (.cells #[.pointer (some ⟨wb, 0, none⟩)] 77 (0, 0)))).alloc (.cells #[.int .u32 f, .int .u32 g, .int .u32 h] 82 (0, 0)))).alloc (.cells #[.func (Fn.func fl) #[] caps] 83 (0, 0)))).alloc (.cells #[.int .u32 0] 27 (0, 0)))).alloc (.cells #[.int .i64 0] 28 (0, 0)))).alloc (.map #[] 0))).alloc (.cells #[.map (some (w.heap.size + 1 + 1 + 1 + 1 + 1))] 106 (0, 0))).heap[w.heap.size + 1 + 1]? = some (.cells #[.func (Fn.func fl) #[] caps] 83 (0, 0)) := (heap_alloc_old _ _ (heap_lt n2_5)).trans n2_5
  have n2_7 : (((((((((((((((w.alloc (.cells #[.pointer (some ⟨wb, 0, none⟩)] 77 (0, 0)))).alloc (.cells #[.int .u32 f, .int .u32 g, .int .u32 h] 82 (0, 0)))).alloc (.cells #[.func (Fn.func fl) #[] caps] 83 (0, 0)))).alloc (.cells #[.int .u32 0] 27 (0, 0)))).alloc (.cells #[.int .i64 0] 28 (0, 0)))).alloc (.map #[] 0))).alloc (.cells #[.map (some (w.heap.size + 1 + 1 + 1 + 1 + 1))] 106 (0, 0)))).alloc (.cells #[(.func (Fn.func 56) #[] #[.pointer (some ⟨w.heap.size + 1 + 1 + 1 + 1 + 1 + 1, 0, none⟩), .pointer (some ⟨w.heap.size, 0, none⟩), .pointer (some ⟨w.heap.size + 1 + 1, 0, none⟩), .pointer (some ⟨w.heap.size + 1 + 1 + 1 + 1 + 1 + 1 + 1, 0, none⟩)])] 107 (0, 0))).heap[w.heap.size + 1 + 1]? = some (.cells #[.func (Fn.func fl) #[] caps] 83 (0, 0)) := (heap_alloc_old _ _ (heap_lt n2_6)).trans n2_6
  have z3 : (((((w.alloc (.cells #[.pointer (some ⟨wb, 0, none⟩)] 77 (0, 0)))).alloc (.cells #[.int .u32 f, .int .u32 g, .int .u32 h] 82 (0, 0)))).alloc (.cells #[.func (Fn.func fl) #[] caps] 83 (0, 0))).heap.size = w.heap.size + 1 + 1 + 1 := by first | rfl | simp only [World.size_alloc]
  have n3 : (((((((w.alloc (.cells #[.pointer (some ⟨wb, 0, none⟩)] 77 (0, 0)))).alloc (.cells #[.int .u32 f, .int .u32 g, .int .u32 h] 82 (0, 0)))).alloc (.cells #[.func (Fn.func fl) #[] caps] 83 (0, 0)))).alloc (.cells #[.int .u32 0] 27 (0, 0))).heap[w.heap.size + 1 + 1 + 1]? = some (.cells #[.int .u32 0] 27 (0, 0)) := by
    have e := heap_alloc_new (((((w.alloc (.cells #[.pointer (some ⟨wb, 0, none⟩)] 77 (0, 0)))).alloc (.cells #[.int .u32 f, .int .u32 g, .int .u32 h] 82 (0, 0)))).alloc (.cells #[.func (Fn.func fl) #[] caps] 83 (0, 0))) (.cells #[.int .u32 0] 27 (0, 0))
    rw [z3] at e; exact e
  have n3_4 : (((((((((w.alloc (.cells #[.pointer (some ⟨wb, 0, none⟩)] 77 (0, 0)))).alloc (.cells #[.int .u32 f, .int .u32 g, .int .u32 h] 82 (0, 0)))).alloc (.cells #[.func (Fn.func fl) #[] caps] 83 (0, 0)))).alloc (.cells #[.int .u32 0] 27 (0, 0)))).alloc (.cells #[.int .i64 0] 28 (0, 0))).heap[w.heap.size + 1 + 1 + 1]? = some (.cells #[.int .u32 0] 27 (0, 0)) := (heap_alloc_old _ _ (heap_lt n3)).trans n3
  have n3_5 : (((((((((((w.alloc (.cells #[.pointer (some ⟨wb, 0, none⟩)] 77 (0, 0)))).alloc (.cells #[.int .u32 f, .int .u32 g, .int .u32 h] 82 (0, 0)))).alloc (.cells #[.func (Fn.func fl) #[] caps] 83 (0, 0)))).alloc (.cells #[.int .u32 0] 27 (0, 0)))).alloc (.cells #[.int .i64 0] 28 (0, 0)))).alloc (.map #[] 0)).heap[w.heap.size + 1 + 1 + 1]? = some (.cells #[.int .u32 0] 27 (0, 0)) := (heap_alloc_old _ _ (heap_lt n3_4)).trans n3_4
  have n3_6 : (((((((((((((w.alloc (.cells #[.pointer (some ⟨wb, 0, none⟩)] 77 (0, 0)))).alloc (.cells #[.int .u32 f, .int .u32 g, .int .u32 h] 82 (0, 0)))).alloc (.cells #[.func (Fn.func fl) #[] caps] 83 (0, 0)))).alloc (.cells #[.int .u32 0] 27 (0, 0)))).alloc (.cells #[.int .i64 0] 28 (0, 0)))).alloc (.map #[] 0))).alloc (.cells #[.map (some (w.heap.size + 1 + 1 + 1 + 1 + 1))] 106 (0, 0))).heap[w.heap.size + 1 + 1 + 1]? = some (.cells #[.int .u32 0] 27 (0, 0)) := (heap_alloc_old _ _ (heap_lt n3_5)).trans n3_5
  have n3_7 : (((((((((((((((w.alloc (.cells #[.pointer (some ⟨wb, 0, none⟩)] 77 (0, 0)))).alloc (.cells #[.int .u32 f, .int .u32 g, .int .u32 h] 82 (0, 0)))).alloc (.cells #[.func (Fn.func fl) #[] caps] 83 (0, 0)))).alloc (.cells #[.int .u32 0] 27 (0, 0)))).alloc (.cells #[.int .i64 0] 28 (0, 0)))).alloc (.map #[] 0))).alloc (.cells #[.map (some (w.heap.size + 1 + 1 + 1 + 1 + 1))] 106 (0, 0)))).alloc (.cells #[(.func (Fn.func 56) #[] #[.pointer (some ⟨w.heap.size + 1 + 1 + 1 + 1 + 1 + 1, 0, none⟩), .pointer (some ⟨w.heap.size, 0, none⟩), .pointer (some ⟨w.heap.size + 1 + 1, 0, none⟩), .pointer (some ⟨w.heap.size + 1 + 1 + 1 + 1 + 1 + 1 + 1, 0, none⟩)])] 107 (0, 0))).heap[w.heap.size + 1 + 1 + 1]? = some (.cells #[.int .u32 0] 27 (0, 0)) := (heap_alloc_old _ _ (heap_lt n3_6)).trans n3_6
  have z4 : (((((((w.alloc (.cells #[.pointer (some ⟨wb, 0, none⟩)] 77 (0, 0)))).alloc (.cells #[.int .u32 f, .int .u32 g, .int .u32 h] 82 (0, 0)))).alloc (.cells #[.func (Fn.func fl) #[] caps] 83 (0, 0)))).alloc (.cells #[.int .u32 0] 27 (0, 0))).heap.size = w.heap.size + 1 + 1 + 1 + 1 := by first | rfl | simp only [World.size_alloc]
  have n4 : (((((((((w.alloc (.cells #[.pointer (some ⟨wb, 0, none⟩)] 77 (0, 0)))).alloc (.cells #[.int .u32 f, .int .u32 g, .int .u32 h] 82 (0, 0)))).alloc (.cells #[.func (Fn.func fl) #[] caps] 83 (0, 0)))).alloc (.cells #[.int .u32 0] 27 (0, 0)))).alloc (.cells #[.int .i64 0] 28 (0, 0))).heap[w.heap.size + 1 + 1 + 1 + 1]? = some (.cells #[.int .i64 0] 28 (0, 0)) := by
    have e := heap_alloc_new (((((((w.alloc (.cells #[.pointer (some ⟨wb, 0, none⟩)] 77 (0, 0)))).alloc (.cells #[.int .u32 f, .int .u32 g, .int .u32 h] 82 (0, 0)))).alloc (.cells #[.func (Fn.func fl) #[] caps] 83 (0, 0)))).alloc (.cells #[.int .u32 0] 27 (0, 0))) (.cells #[.int .i64 0] 28 (0, 0))
    rw [z4] at e; exact e
  have n4_5 : (((((((((((w.alloc (.cells #[.pointer (some ⟨wb, 0, none⟩)] 77 (0, 0)))).alloc (.cells #[.int .u32 f, .int .u32 g, .int .u32 h] 82 (0, 0)))).alloc (.cells #[.func (Fn.func fl) #[] caps] 83 (0, 0)))).alloc (.cells #[.int .u32 0] 27 (0, 0)))).alloc (.cells #[.int .i64 0] 28 (0, 0)))).alloc (.map #[] 0)).heap[w.heap.size + 1 + 1 + 1 + 1]? = some (.cells #[.int .i64 0] 28 (0, 0)) := (heap_alloc_old _ _ (heap_lt n4)).trans n4
  have n4_6 : (((((((((((((w.alloc (.cells #[.pointer (some ⟨wb, 0, none⟩)] 77 (0, 0)))).alloc (.cells #[.int .u32 f, .int .u32 g, .int .u32 h] 82 (0, 0)))).alloc (.cells #[.func (Fn.func fl) #[] caps] 83 (0, 0)))).alloc (.cells #[.int .u32 0] 27 (0, 0)))).alloc (.cells #[.int .i64 0] 28 (0, 0)))).alloc (.map #[] 0))).alloc (.cells #[.map (some (w.heap.size + 1 + 1 + 1 + 1 + 1))] 106 (0, 0))).heap[w.heap.size + 1 + 1 + 1 + 1]? = some (.cells #[.int .i64 0] 28 (0, 0)) := (heap_alloc_old _ _ (heap_lt n4_5)).trans n4_5
  have n4_7 : (((((((((((((((w.alloc (.cells #[.pointer (some ⟨wb, 0, none⟩)] 77 (0, 0)))).alloc (.cells #[.int .u32 f, .int .u32 g, .int .u32 h] 82 (0, 0)))).alloc (.cells #[.func (Fn.func fl) #[] caps] 83 (0, 0)))).alloc (.cells #[.int .u32 0] 27 (0, 0)))).alloc (.cells #[.int .i64 0] 28 (0, 0)))).alloc (.map #[] 0))).alloc (.cells #[.map (some (w.heap.size + 1 + 1 + 1 + 1 + 1))] 106 (0, 0)))).alloc (.cells #[(.func (Fn.func 56) #[] #[.pointer (some ⟨w.heap.size + 1 + 1 + 1 + 1 + 1 + 1, 0, none⟩), .pointer (some ⟨w.heap.size, 0, none⟩), .pointer (some ⟨w.heap.size + 1 + 1, 0, none⟩), .pointer (some ⟨w.heap.size + 1 + 1 + 1 + 1 + 1 + 1 + 1, 0, none⟩)])] 107 (0, 0))).heap[w.heap.size + 1 + 1 + 1 + 1]? = some (.cells #[.int .i64 0] 28 (0, 0)) := (heap_alloc_old _ _ (heap_lt n4_6)).trans n4_6
  have z5 : (((((((((w.alloc (.cells #[.pointer (some ⟨wb, 0, none⟩)] 77 (0, 0)))).alloc (.cells #[.int .u32 f, .int .u32 g, .int .u32 h] 82 (0, 0)))).alloc (.cells #[.func (Fn.func fl) #[] caps] 83 (0, 0)))).alloc (.cells #[.int .u32 0] 27 (0, 0)))).alloc (.cells #[.int .i64 0] 28 (0, 0))).heap.size = w.heap.size + 1 + 1 + 1 + 1 + 1 := by first | rfl | simp only [World.size_alloc]
  have n5 : (((((((((((w.alloc (.cells #[.pointer (some ⟨wb, 0, none⟩)] 77 (0, 0)))).alloc (.cells #[.int .u32 f, .int .u32 g, .int .u32 h] 82 (0, 0)))).alloc (.cells #[.func (Fn.func fl) #[] caps] 83 (0, 0)))).alloc (.cells #[.int .u32 0] 27 (0, 0)))).alloc (.cells #[.int .i64 0] 28 (0, 0)))).alloc (.map #[] 0)).heap[w.heap.size + 1 + 1 + 1 + 1 + 1]? = some (.map #[] 0) := by
    have e := heap_alloc_new (((((((((w.alloc (.cells #[.pointer (some ⟨wb, 0, none⟩)] 77 (0, 0)))).alloc (.cells #[.int .u32 f, .int .u32 g, .int .u32 h] 82 (0, 0)))).alloc (.cells #[.func (Fn.func fl) #[] caps] 83 (0, 0)))).alloc (.cells #[.int .u32 0] 27 (0, 0)))).alloc (.cells #[.int .i64 0] 28 (0, 0))) (.map #[] 0)
    rw [z5] at e; exact e
  have n5_6 : (((((((((((((w.alloc (.cells #[.pointer (some ⟨wb, 0, none⟩)] 77 (0, 0)))).alloc (.cells #[.int .u32 f, .int .u32 g, .int .u32 h] 82 (0, 0)))).alloc (.cells #[.func (Fn.func fl) #[] caps] 83 (0, 0)))).alloc (.cells #[.int .u32 0] 27 (0, 0)))).alloc (.cells #[.int .i64 0] 28 (0, 0)))).alloc (.map #[] 0))).alloc (.cells #[.map (some (w.heap.size + 1 + 1 + 1 + 1 + 1))] 106 (0, 0))).heap[w.heap.size + 1 + 1 + 1 + 1 + 1]? = some (.map #[] 0) := (heap_alloc_old _ _ (heap_lt n5)).trans n5
  have n5_7 : (((((((((((((((w.alloc (.cells #[.pointer (some ⟨wb, 0, none⟩)] 77 (0, 0)))).alloc (.cells #[.int .u32 f, .int .u32 g, .int .u32 h] 82 (0, 0)))).alloc (.cells #[.func (Fn.func fl) #[] caps] 83 (0, 0)))).alloc (.cells #[.int .u32 0] 27 (0, 0)))).alloc (.cells #[.int .i64 0] 28 (0, 0)))).alloc (.map #[] 0))).alloc (.cells #[.map (some (w.heap.size + 1 + 1 + 1 + 1 + 1))] 106 (0, 0)))).alloc (.cells #[(.func (Fn.func 56) #[] #[.pointer (some ⟨w.heap.size + 1 + 1 + 1 + 1 + 1 + 1, 0, none⟩), .pointer (some ⟨w.heap.size, 0, none⟩), .pointer (some ⟨w.heap.size + 1 + 1, 0, none⟩), .pointer (some ⟨w.heap.size + 1 + 1 + 1 + 1 + 1 + 1 + 1, 0, none⟩)])] 107 (0, 0))).heap[w.heap.size + 1 + 1 + 1 + 1 + 1]? = some (.map #[] 0) := (heap_alloc_old _ _ (heap_lt n5_6)).trans n5_6
  have z6 : (((((((((((w.alloc (.cells #[.pointer (some ⟨wb, 0, none⟩)] 77 (0, 0)))).alloc (.cells #[.int .u32 f, .int .u32 g, .int .u32 h] 82 (0, 0)))).alloc (.cells #[.func (Fn.func fl) #[] caps] 83 (0, 0)))).alloc (.cells #[.int .u32 0] 27 (0, 0)))).alloc (.cells #[.int .i64 0] 28 (0, 0)))).alloc (.map #[] 0)).heap.size = w.heap.size + 1 + 1 + 1 + 1 + 1 + 1 := by first | rfl | simp only [World.size_alloc]
  have n6 : (((((((((((((w.alloc (.cells #[.pointer (some ⟨wb, 0, none⟩)] 77 (0, 0)))).alloc (.cells #[.int .u32 f, .int .u32 g, .int .u32 h] 82 (0, 0)))).alloc (.cells #[.func (Fn.func fl) #[] caps] 83 (0, 0)))).alloc (.cells #[.int .u32 0] 27 (0, 0)))).alloc (.cells #[.int .i64 0] 28 (0, 0)))).alloc (.map #[] 0))).alloc (.cells #[.map (some (w.heap.size + 1 + 1 + 1 + 1 + 1))] 106 (0, 0))).heap[w.heap.size + 1 + 1 + 1 + 1 + 1 + 1]? = some (.cells #[.map (some (w.heap.size + 1 + 1 + 1 + 1 + 1))] 106 (0, 0)) := by
    have e := heap_alloc_new (((((((((((w.alloc (.cells #[.pointer (some ⟨wb, 0, none⟩)] 77 (0, 0)))).alloc (.cells #[.int .u32 f, .int .u32 g, .int .u32 h] 82 (0, 0)))).alloc (.cells #[.func (Fn.func fl) #[] caps] 83 (0, 0)))).alloc (.cells #[.int .u32 0] 27 (0, 0)))).alloc (.cells #[.int .i64 0] 28 (0, 0)))).alloc (.map #[] 0)) (.cells #[.map (some (w.heap.size + 1 + 1 + 1 + 1 + 1))] 106 (0, 0))
    rw [z6] at e; exact e
  have n6_7 : (((((((((((((((w.alloc (.cells #[.pointer (some ⟨wb, 0, none⟩)] 77 (0, 0)))).alloc (.cells #[.int .u32 f, .int .u32 g, .int .u32 h] 82 (0, 0)))).alloc (.cells #[.func (Fn.func fl) #[] caps] 83 (0, 0)))).alloc (.cells #[.int .u32 0] 27 (0, 0)))).alloc (.cells #[.int .i64 0] 28 (0, 0)))).alloc (.map #[] 0))).alloc (.cells #[.map (some (w.heap.size + 1 + 1 + 1 + 1 + 1))] 106 (0, 0)))).alloc (.cells #[(.func (Fn.func 56) #[] #[.pointer (some ⟨w.heap.size + 1 + 1 + 1 + 1 + 1 + 1, 0, none⟩), .pointer (some ⟨w.heap.size, 0, none⟩), .pointer (some ⟨w.heap.size + 1 + 1, 0, none⟩), .pointer (some ⟨w.heap.size + 1 + 1 + 1 + 1 + 1 + 1 + 1, 0, none⟩)])] 107 (0, 0))).heap[w.heap.size + 1 + 1 + 1 + 1 + 1 + 1]? = some (.cells #[.map (some (w.heap.size + 1 + 1 + 1 + 1 + 1))] 106 (0, 0)) := (heap_alloc_old _ _ (heap_lt n6)).trans n6
  have z7 : (((((((((((((w.alloc (.cells #[.pointer (some ⟨wb, 0, none⟩)] 77 (0, 0)))).alloc (.cells #[.int .u32 f, .int .u32 g, .int .u32 h] 82 (0, 0)))).alloc (.cells #[.func (Fn.func fl) #[] caps] 83 (0, 0)))).alloc (.cells #[.int .u32 0] 27 (0, 0)))).alloc (.cells #[.int .i64 0] 28 (0, 0)))).alloc (.map #[] 0))).alloc (.cells #[.map (some (w.heap.size + 1 + 1 + 1 + 1 + 1))] 106 (0, 0))).heap.size = w.heap.size + 1 + 1 + 1 + 1 + 1 + 1 + 1 := by first | rfl | simp only [World.size_alloc]
  have n7 : (((((((((((((((w.alloc (.cells #[.pointer (some ⟨wb, 0, none⟩)] 77 (0, 0)))).alloc (.cells #[.int .u32 f, .int .u32 g, .int .u32 h] 82 (0, 0)))).alloc (.cells #[.func (Fn.func fl) #[] caps] 83 (0, 0)))).alloc (.cells #[.int .u32 0] 27 (0, 0)))).alloc (.cells #[.int .i64 0] 28 (0, 0)))).alloc (.map #[] 0))).alloc (.cells #[.map (some (w.heap.size + 1 + 1 + 1 + 1 + 1))] 106 (0, 0)))).alloc (.cells #[(.func (Fn.func 56) #[] #[.pointer (some ⟨w.heap.size + 1 + 1 + 1 + 1 + 1 + 1, 0, none⟩), .pointer (some ⟨w.heap.size, 0, none⟩), .pointer (some ⟨w.heap.size + 1 + 1, 0, none⟩), .pointer (some ⟨w.heap.size + 1 + 1 + 1 + 1 + 1 + 1 + 1, 0, none⟩)])] 107 (0, 0))).heap[w.heap.size + 1 + 1 + 1 + 1 + 1 + 1 + 1]? = some (.cells #[(.func (Fn.func 56) #[] #[.pointer (some ⟨w.heap.size + 1 + 1 + 1 + 1 + 1 + 1, 0, none⟩), .pointer (some ⟨w.heap.size, 0, none⟩), .pointer (some ⟨w.heap.size + 1 + 1, 0, none⟩), .pointer (some ⟨w.heap.size + 1 + 1 + 1 + 1 + 1 + 1 + 1, 0, none⟩)])] 107 (0, 0)) := by
    have e := heap_alloc_new (((((((((((((w.alloc (.cells #[.pointer (some ⟨wb, 0, none⟩)] 77 (0, 0)))).alloc (.cells #[.int .u32 f, .int .u32 g, .int .u32 h] 82 (0, 0)))).alloc (.cells #[.func (Fn.func fl) #[] caps] 83 (0, 0)))).alloc (.cells #[.int .u32 0] 27 (0, 0)))).alloc (.cells #[.int .i64 0] 28 (0, 0)))).alloc (.map #[] 0))).alloc (.cells #[.map (some (w.heap.size + 1 + 1 + 1 + 1 + 1))] 106 (0, 0))) (.cells #[(.func (Fn.func 56) #[] #[.pointer (some ⟨w.heap.size + 1 + 1 + 1 + 1 + 1 + 1, 0, none⟩), .pointer (some ⟨w.heap.size, 0, none⟩), .pointer (some ⟨w.heap.size + 1 + 1, 0, none⟩), .pointer (some ⟨w.heap.size + 1 + 1 + 1 + 1 + 1 + 1 + 1, 0, none⟩)])] 107 (0, 0))
    rw [z7] at e; exact e
  refine ⟨?_, n0_7, n1_7, n2_7, n3_7, n4_7, n5_7, n6_7, n7, ((((((((Upd.refl [] w).alloc _).alloc _).alloc _).alloc _).alloc _).alloc _).alloc _).alloc _⟩
  have e := heap_alloc_new (((((((((((((w.alloc (.cells #[.pointer (some ⟨wb, 0, none⟩)] 77 (0, 0)))).alloc (.cells #[.int .u32 f, .int .u32 g, .int .u32 h] 82 (0, 0)))).alloc (.cells #[.func (Fn.func fl) #[] caps] 83 (0, 0)))).alloc (.cells #[.int .u32 0] 27 (0, 0)))).alloc (.cells #[.int .i64 0] 28 (0, 0)))).alloc (.map #[] 0))).alloc (.cells #[.map (some (w.heap.size + 1 + 1 + 1 + 1 + 1))] 106 (0, 0))) (.cells #[.nilFunc] 107 (0, 0))
  rw [z7] at e; exact e

/-- the recursion's memory, laid out -/
theorem RunB.runM {w W : World} {wb b fl f g h : Nat} {caps : Array Value} {FL : List Nat} {L : Bool → Bool → Bool → Bool} {K0 : KV} {T : List DM} {q : KPtr} {lvv : Value} (B : RunB w wb f g h fl caps W) (hW : WK w wb b K0 T q [] lvv (.slice none 0 0)) (hL : LeafOk w fl caps FL L) (hFL : ∀ k, k ∈ FL → k < w.heap.size)
    (hdj : ∀ k, k ∈ wkF wb b q lvv (.slice none 0 0) → k ∉ FL) : RunM W wb b (w.heap.size + 1 + 1 + 1 + 1 + 1 + 1) (w.heap.size) (w.heap.size + 1 + 1) (w.heap.size + 1 + 1 + 1 + 1 + 1 + 1 + 1) (w.heap.size + 1 + 1 + 1 + 1 + 1) fl caps FL L K0 T q [] lvv (.slice none 0 0) (.map []) := by
  have hlt := hW.lt
  refine ⟨hW.upd B.up (by simp), B.b0, B.b6, B.b2, B.b7, own_empty B.b5, fun w' h' => hL w' fun k hk => (h' k hk).trans (B.up.block k (hFL k hk) (by simp)), fun k hk => Nat.lt_of_lt_of_le (hFL k hk) B.up.size, fun k hk => ?_, fun hm => by have := hlt _ hm; omega⟩
  rcases List.mem_cons.1 hk with rfl | hk
  · exact ⟨by omega, by omega, by omega, by omega, fun hm => by have := hFL _ hm; omega⟩
  · have := hlt k hk
    exact ⟨by omega, by omega, by omega, by omega, hdj k hk⟩

/-- what a run leaves -/
structure RunPost (b : Nat) (K0 : KV) (q : KPtr) (L : Bool → Bool → Bool → Bool) (f g h : Nat) (F : List Nat) (w : World) (e : Ending) (w' : World) : Prop where
  ex : ∃ (r : Nat) (code : Int) (K1 : KV) (M : List Nat) (K' : KV) (T' : List DM) (q' : KPtr), e = .returned (.tuple #[.int .u32 (endR M r code).1, .int .i64 (endR M r code).2]) ∧ StepR K0 K0 L (K0.SubN (K0.fun3 L f g h)) f g h [] r code K1 M ∧ K1.Ok ∧ K1.Uni ∧ EndX K0 K1 M r code K' ∧
    KerIn w' b K' T' q' ∧ Upd F w w' ∧ Sub F w (q'.all b)

set_option maxRecDepth 100000 in
set_option maxHeartbeats 1600000 in
theorem wrun_spec (wb b fl f g h : Nat) (caps : Array Value) (FL : List Nat) (L : Bool → Bool → Bool → Bool) (K0 : KV) (T : List DM) (q : KPtr) (lvv : Value) (w : World) (hW : WK w wb b K0 T q [] lvv (.slice none 0 0)) (hA : AskQ K0 f g h) (hL : LeafOk w fl caps FL L) (hFL : ∀ k, k ∈ FL → k < w.heap.size)
    (hdj : ∀ k, k ∈ wkF wb b q lvv (.slice none 0 0) → k ∉ FL) (hfl : Enters fl) :
    Calls Try.prog 36 #[.pointer (some ⟨wb, 0, none⟩), .agg #[.int .u32 f, .int .u32 g, .int .u32 h], .func (Fn.func fl) #[] caps] w fun e w' =>
      RunPost b K0 q L f g h (wkF wb b q lvv (.slice none 0 0)) w e w' := by
  have hmf : ∀ (fn : Fn) (first cap : Array Value) (w : World), (Instr.makeFunc fn first cap).run Try.prog w = .ok (.func fn first cap) w := fun _ _ _ _ => rfl
  have hmm := @run_makeMap Try.prog
  have hsf : ∀ (a : Addr) (m : Mode) (fn : Fn) (first cap : Array Value) (w : World), (store a (.func fn first cap) m).run Try.prog w = stored Try.prog w a (.func fn first cap) m := fun a m fn first cap w => run_store Try.prog w a _ m rfl
  obtain ⟨hb7, hRB⟩ := run_laid w wb f g h fl caps
  have c7 := cell_at (j := 0) hb7 rfl
  have f7 := frozen_at 0 hb7
  have hRM := hRB.runM hW hL hFL hdj
  have hlt := hW.lt
  have HCALL := Lib.hid (go_spec K0 (K0.fun3 L f g h) wb b (w.heap.size + 1 + 1 + 1 + 1 + 1 + 1) (w.heap.size) (w.heap.size + 1 + 1) (w.heap.size + 1 + 1 + 1 + 1 + 1 + 1 + 1) (w.heap.size + 1 + 1 + 1 + 1 + 1) fl caps FL L lvv hfl enters_go (K0.vars + 1) 0 (by omega) f g h K0 T q [] (.slice none 0 0) (.map []) (((((((((((((((w.alloc (.cells #[.pointer (some ⟨wb, 0, none⟩)] 77 (0, 0)))).alloc (.cells #[.int .u32 f, .int .u32 g, .int .u32 h] 82 (0, 0)))).alloc (.cells #[.func (Fn.func fl) #[] caps] 83 (0, 0)))).alloc (.cells #[.int .u32 0] 27 (0, 0)))).alloc (.cells #[.int .i64 0] 28 (0, 0)))).alloc (.map #[] 0))).alloc (.cells #[.map (some (w.heap.size + 1 + 1 + 1 + 1 + 1))] 106 (0, 0)))).alloc (.cells #[(.func (Fn.func 56) #[] #[.pointer (some ⟨w.heap.size + 1 + 1 + 1 + 1 + 1 + 1, 0, none⟩), .pointer (some ⟨w.heap.size, 0, none⟩), .pointer (some ⟨w.heap.size + 1 + 1, 0, none⟩), .pointer (some ⟨w.heap.size + 1 + 1 + 1 + 1 + 1 + 1 + 1, 0, none⟩)])] 107 (0, 0))) hRM hA (Nat.zero_le _) (RunS.start K0 _) (KnownOk.nil K0 L [] K0) ⟨0, fun _ => false, Nat.zero_le _, fun x => by rw [K0.mix_zero]⟩)
  have HRB := Lib.hid hRB
  have HLT := Lib.hid hlt
  clear hb7 hRB hRM hlt hW hA hL hFL hdj hfl
  go_enter_defers Try.func36, Try.ntmps36
  go_wp2_with fail
  refine HCALL.out.mono ?_
  rintro e w2 ⟨r, code, rfl, ⟨K1, M1, T1, q1, mv1, D1, S1, KO1, R2, U2, SB2⟩, hr⟩
  have hn : ∀ k, w.heap.size ≤ k → k ≠ w.heap.size + 1 + 1 + 1 + 1 + 1 → k ∉ runF (w.heap.size + 1 + 1 + 1 + 1 + 1) wb b q lvv (.slice none 0 0) := fun k hk h5 hm => by
    rcases List.mem_cons.1 hm with h | h
    · exact h5 h
    · have := HLT.out k h; omega
  have e3 := (U2.block _ (heap_lt HRB.out.b3) (hn _ (by omega) (by omega))).trans HRB.out.b3
  have e4 := (U2.block _ (heap_lt HRB.out.b4) (hn _ (by omega) (by omega))).trans HRB.out.b4
  have e0 := (U2.block _ (heap_lt HRB.out.b0) (hn _ (by omega) (by omega))).trans HRB.out.b0
  have y3 := cell_at (j := 0) e3 rfl
  have y4 := cell_at (j := 0) e4 rfl
  have g3 := frozen_at 0 e3
  have g4 := frozen_at 0 e4
  have H2 := Lib.hid (And.intro S1 (And.intro R2 (And.intro U2 (And.intro SB2 (And.intro hr (And.intro hn (And.intro e0 (And.intro e3 e4))))))))
  clear S1 KO1 R2 U2 SB2 hr hn e3 e4 e0 c7 f7 HCALL
  go_wp2_with fail
  have n34 : (w.heap.size + 1 + 1 + 1) ≠ (w.heap.size + 1 + 1 + 1 + 1) := by omega
  have U9 : Upd [w.heap.size + 1 + 1 + 1, w.heap.size + 1 + 1 + 1 + 1] w2 ((w2.setCell ⟨w.heap.size + 1 + 1 + 1, 0, none⟩ (.int .u32 r)).setCell ⟨w.heap.size + 1 + 1 + 1 + 1, 0, none⟩ (.int .i64 code)) := ((Upd.refl _ w2).setCell (p := ⟨w.heap.size + 1 + 1 + 1, 0, none⟩) (.inl (by simp)) _).setCell (p := ⟨w.heap.size + 1 + 1 + 1 + 1, 0, none⟩) (.inl (by simp)) _
  have hn1 : ∀ k, w.heap.size ≤ k → k < w.heap.size + 1 + 1 + 1 + 1 + 1 + 1 + 1 + 1 → k ≠ w.heap.size + 1 + 1 + 1 + 1 + 1 → k ∉ wkF wb b q1 lvv mv1 := fun k hk hk8 h5 hm => by
    rcases H2.out.2.2.2.1 k (List.mem_cons_of_mem _ hm) with h | h
    · exact H2.out.2.2.2.2.2.1 k hk h5 h
    · have := heap_lt HRB.out.b7; omega
  have W9 := H2.out.2.1.wk.upd U9 (fun k hk hm => by
    simp at hm
    rcases hm with rfl | rfl
    · exact hn1 _ (by omega) (by omega) (by omega) hk
    · exact hn1 _ (by omega) (by omega) (by omega) hk)
  have b9 : ((w2.setCell ⟨w.heap.size + 1 + 1 + 1, 0, none⟩ (.int .u32 r)).setCell ⟨w.heap.size + 1 + 1 + 1 + 1, 0, none⟩ (.int .i64 code)).heap[w.heap.size]? = _ := (U9.block _ (heap_lt H2.out.2.2.2.2.2.2.1) (by simp; omega)).trans H2.out.2.2.2.2.2.2.1
  have b93 : ((w2.setCell ⟨w.heap.size + 1 + 1 + 1, 0, none⟩ (.int .u32 r)).setCell ⟨w.heap.size + 1 + 1 + 1 + 1, 0, none⟩ (.int .i64 code)).heap[w.heap.size + 1 + 1 + 1]? = some (.cells #[.int .u32 r] 27 (0, 0)) := by
    rw [heap_set_ne n34, heap_set_eq H2.out.2.2.2.2.2.2.2.1]; rfl
  have b94 : ((w2.setCell ⟨w.heap.size + 1 + 1 + 1, 0, none⟩ (.int .u32 r)).setCell ⟨w.heap.size + 1 + 1 + 1 + 1, 0, none⟩ (.int .i64 code)).heap[w.heap.size + 1 + 1 + 1 + 1]? = some (.cells #[.int .i64 code] 28 (0, 0)) := by
    have e : (w2.setCell ⟨w.heap.size + 1 + 1 + 1, 0, none⟩ (.int .u32 r)).heap[w.heap.size + 1 + 1 + 1 + 1]? = w2.heap[w.heap.size + 1 + 1 + 1 + 1]? := heap_set_ne (Ne.symm n34)
    rw [heap_set_eq (e.trans H2.out.2.2.2.2.2.2.2.2)]; rfl
  have hlen := H2.out.1.run.len H2.out.2.1.wk.ker.ok
  refine leaves_cons (f := 54) (args := #[.pointer (some ⟨w.heap.size, 0, none⟩), .pointer (some ⟨w.heap.size + 1 + 1 + 1, 0, none⟩), .pointer (some ⟨w.heap.size + 1 + 1 + 1 + 1, 0, none⟩)]) (by simp) (by simp [go_sem]) ?_
  refine (run1_spec wb b (w.heap.size) (w.heap.size + 1 + 1 + 1) (w.heap.size + 1 + 1 + 1 + 1) r code K0 K1 T1 q1 M1 lvv mv1 .returning _ W9 (by have := hlen.1; omega) H2.out.2.2.2.2.1 hlen.2 H2.out.1.run.hd H2.out.1.run.tr b9 b93 b94 (hn1 _ (by omega) (by omega) (by omega)) (hn1 _ (by omega) (by omega) (by omega)) n34).mono ?_
  rintro e u' w3 ⟨rfl, rfl, z1, z2, hY⟩
  have HY := Lib.hid hY
  have HF : Hid (RunPost b K0 q L f g h (wkF wb b q lvv (.slice none 0 0)) w (.returned (.tuple #[.int .u32 (endR M1 r code).1, .int .i64 (endR M1 r code).2])) w3) := by
    obtain ⟨K', T', q', hk, hu, hs, hx⟩ := HY.out.ex
    have s2 := HRB.out.up.size
    have s3 := H2.out.2.2.1.size
    have U12 : Upd (wkF wb b q lvv (.slice none 0 0)) w w2 := (HRB.out.up.mono (by simp) : Upd (wkF wb b q lvv (.slice none 0 0)) w _).then H2.out.2.2.1 (fun x hx => by
      rcases List.mem_cons.1 hx with h | h
      · right; omega
      · exact .inl h)
    have SB : Sub (wkF wb b q lvv (.slice none 0 0)) w (wkF wb b q1 lvv mv1) := fun k hk => by
      rcases H2.out.2.2.2.1 k (List.mem_cons_of_mem _ hk) with h | h
      · rcases List.mem_cons.1 h with h | h
        · right; omega
        · exact .inl h
      · right; omega
    have U23 := U12.then U9 (fun x hx => by
      simp at hx
      rcases hx with rfl | rfl
      · right; omega
      · right; omega)
    have z := U9.size
    refine ⟨r, code, K1, M1, K', T', q', rfl, H2.out.1, H2.out.2.1.wk.ker.ok, H2.out.2.1.wk.ker.ti.uni H2.out.2.1.wk.ker.ok.wf, hx, hk, U23.then hu (fun x hx => ?_), fun k hk => ?_⟩
    · simp at hx
      rcases hx with rfl | rfl | hx
      · right; omega
      · right; omega
      · exact SB x hx
    · rcases hs k hk with h | h
      · exact SB k (List.mem_append.2 (.inl h))
      · right
        have : w2.heap.size ≤ k := Nat.le_trans z h
        omega
  clear hY W9 b9 b93 b94 U9 y3 y4 g3 g4 HY
  generalize (endR M1 r code).1 = a at z1 HF
  generalize (endR M1 r code).2 = c at z2 HF
  simp [Leaves, settle, results, Try.results36, go_sem, z1, z2]
  exact HF.out
end Go.Proofs.Ytnenhecnkidnpaa
