import Derived.Test.YtfkopmhpppeheaaGreatPF10
import Derived.Deep.QuietTactic
set_option maxRecDepth 100000
set_option maxHeartbeats 3200000
namespace Go.Proofs.YtfkopmhpppeheaaGreat
open Go.RowKit Go.Maps Go.ChangeMaps Go.WideShapes
theorem enters_go:Enters 212:=fun args w=>by
 simp [go_sem]
theorem KV.mix_zero (K:KV) (a x:Nat->Bool):K.mix 0 a x=x:=by funext v;simp [KV.mix]
theorem own_empty {W:World} {mb:Nat} (h:W.heap[mb]?=some (.map #[] 0)):W.ownsMap Tryz.prog 228 (plainElem (H:=Unit) Tryz.prog 77) mb 0 (.map []):=by
 obtain ⟨es,clock,q1,q2,q3,q4⟩:=World.ownsMap_made W Tryz.prog 228 (plainElem (H:=Unit) Tryz.prog 77);rw [heap_alloc_new] at q1;cases q1;exact ⟨#[],0,h,q2,Nat.zero_le _,rfl⟩
structure RunB (w:World) (wb f g h fl:Nat) (caps:Array Value) (W:World):Prop where
 b0:W.heap[w.heap.size]?=some (.cells #[.pointer (some ⟨wb,0,none⟩)] 223 (0,0))
 b1:W.heap[w.heap.size+1]?=some (.cells #[.int .u32 f,.int .u32 g,.int .u32 h] 228 (0,0))
 b2:W.heap[w.heap.size+1+1]?=some (.cells #[.func (Fn.func fl) #[] caps] 229 (0,0))
 b3:W.heap[w.heap.size+1+1+1]?=some (.cells #[.int .u32 0] 77 (0,0))
 b4:W.heap[w.heap.size+1+1+1+1]?=some (.cells #[.int .i64 0] 47 (0,0))
 b5:W.heap[w.heap.size+1+1+1+1+1]?=some (.map #[] 0)
 b6:W.heap[w.heap.size+1+1+1+1+1+1]?=some (.cells #[.map (some (w.heap.size+1+1+1+1+1))] 280 (0,0))
 b7:W.heap[w.heap.size+1+1+1+1+1+1+1]?=some (.cells #[(.func (Fn.func 212) #[] #[.pointer (some ⟨w.heap.size+1+1+1+1+1+1,0,none⟩),.pointer (some ⟨w.heap.size,0,none⟩),.pointer (some ⟨w.heap.size+1+1,0,none⟩),.pointer (some ⟨w.heap.size+1+1+1+1+1+1+1,0,none⟩)])] 281 (0,0))
 up:Upd [] w W
theorem run_laid (w:World) (wb f g h fl:Nat) (caps:Array Value):((((((((((((((w.alloc (.cells #[.pointer (some ⟨wb,0,none⟩)] 223 (0,0)))).alloc (.cells #[.int .u32 f,.int .u32 g,.int .u32 h] 228 (0,0)))).alloc (.cells #[.func (Fn.func fl) #[] caps] 229 (0,0)))).alloc (.cells #[.int .u32 0] 77 (0,0)))).alloc (.cells #[.int .i64 0] 47 (0,0)))).alloc (.map #[] 0))).alloc (.cells #[.map (some (w.heap.size+1+1+1+1+1))] 280 (0,0))).alloc (.cells #[.nilFunc] 281 (0,0))).heap[w.heap.size+1+1+1+1+1+1+1]?=some (.cells #[.nilFunc] 281 (0,0))/\RunB w wb f g h fl caps (((((((((((((((w.alloc (.cells #[.pointer (some ⟨wb,0,none⟩)] 223 (0,0)))).alloc (.cells #[.int .u32 f,.int .u32 g,.int .u32 h] 228 (0,0)))).alloc (.cells #[.func (Fn.func fl) #[] caps] 229 (0,0)))).alloc (.cells #[.int .u32 0] 77 (0,0)))).alloc (.cells #[.int .i64 0] 47 (0,0)))).alloc (.map #[] 0))).alloc (.cells #[.map (some (w.heap.size+1+1+1+1+1))] 280 (0,0)))).alloc (.cells #[(.func (Fn.func 212) #[] #[.pointer (some ⟨w.heap.size+1+1+1+1+1+1,0,none⟩),.pointer (some ⟨w.heap.size,0,none⟩),.pointer (some ⟨w.heap.size+1+1,0,none⟩),.pointer (some ⟨w.heap.size+1+1+1+1+1+1+1,0,none⟩)])] 281 (0,0))):=by
 have z0:w.heap.size=w.heap.size:=by first | rfl | simp only [World.size_alloc]
 have n0:(w.alloc (.cells #[.pointer (some ⟨wb,0,none⟩)] 223 (0,0))).heap[w.heap.size]?=some (.cells #[.pointer (some ⟨wb,0,none⟩)] 223 (0,0)):=by
  have e:=heap_alloc_new w (.cells #[.pointer (some ⟨wb,0,none⟩)] 223 (0,0))
  rw [z0] at e;exact e
 have n0_1:(((w.alloc (.cells #[.pointer (some ⟨wb,0,none⟩)] 223 (0,0)))).alloc (.cells #[.int .u32 f,.int .u32 g,.int .u32 h] 228 (0,0))).heap[w.heap.size]?=some (.cells #[.pointer (some ⟨wb,0,none⟩)] 223 (0,0)):=(heap_alloc_old _ _ (heap_lt n0)).trans n0;have n0_2:(((((w.alloc (.cells #[.pointer (some ⟨wb,0,none⟩)] 223 (0,0)))).alloc (.cells #[.int .u32 f,.int .u32 g,.int .u32 h] 228 (0,0)))).alloc (.cells #[.func (Fn.func fl) #[] caps] 229 (0,0))).heap[w.heap.size]?=some (.cells #[.pointer (some ⟨wb,0,none⟩)] 223 (0,0)):=(heap_alloc_old _ _ (heap_lt n0_1)).trans n0_1;have n0_3:(((((((w.alloc (.cells #[.pointer (some ⟨wb,0,none⟩)] 223 (0,0)))).alloc (.cells #[.int .u32 f,.int .u32 g,.int .u32 h] 228 (0,0)))).alloc (.cells #[.func (Fn.func fl) #[] caps] 229 (0,0)))).alloc (.cells #[.int .u32 0] 77 (0,0))).heap[w.heap.size]?=some (.cells #[.pointer (some ⟨wb,0,none⟩)] 223 (0,0)):=(heap_alloc_old _ _ (heap_lt n0_2)).trans n0_2;have n0_4:(((((((((w.alloc (.cells #[.pointer (some ⟨wb,0,none⟩)] 223 (0,0)))).alloc (.cells #[.int .u32 f,.int .u32 g,.int .u32 h] 228 (0,0)))).alloc (.cells #[.func (Fn.func fl) #[] caps] 229 (0,0)))).alloc (.cells #[.int .u32 0] 77 (0,0)))).alloc (.cells #[.int .i64 0] 47 (0,0))).heap[w.heap.size]?=some (.cells #[.pointer (some ⟨wb,0,none⟩)] 223 (0,0)):=(heap_alloc_old _ _ (heap_lt n0_3)).trans n0_3;have n0_5:(((((((((((w.alloc (.cells #[.pointer (some ⟨wb,0,none⟩)] 223 (0,0)))).alloc (.cells #[.int .u32 f,.int .u32 g,.int .u32 h] 228 (0,0)))).alloc (.cells #[.func (Fn.func fl) #[] caps] 229 (0,0)))).alloc (.cells #[.int .u32 0] 77 (0,0)))).alloc (.cells #[.int .i64 0] 47 (0,0)))).alloc (.map #[] 0)).heap[w.heap.size]?=some (.cells #[.pointer (some ⟨wb,0,none⟩)] 223 (0,0)):=(heap_alloc_old _ _ (heap_lt n0_4)).trans n0_4;have n0_6:(((((((((((((w.alloc (.cells #[.pointer (some ⟨wb,0,none⟩)] 223 (0,0)))).alloc (.cells #[.int .u32 f,.int .u32 g,.int .u32 h] 228 (0,0)))).alloc (.cells #[.func (Fn.func fl) #[] caps] 229 (0,0)))).alloc (.cells #[.int .u32 0] 77 (0,0)))).alloc (.cells #[.int .i64 0] 47 (0,0)))).alloc (.map #[] 0))).alloc (.cells #[.map (some (w.heap.size+1+1+1+1+1))] 280 (0,0))).heap[w.heap.size]?=some (.cells #[.pointer (some ⟨wb,0,none⟩)] 223 (0,0)):=(heap_alloc_old _ _ (heap_lt n0_5)).trans n0_5;have n0_7:(((((((((((((((w.alloc (.cells #[.pointer (some ⟨wb,0,none⟩)] 223 (0,0)))).alloc (.cells #[.int .u32 f,.int .u32 g,.int .u32 h] 228 (0,0)))).alloc (.cells #[.func (Fn.func fl) #[] caps] 229 (0,0)))).alloc (.cells #[.int .u32 0] 77 (0,0)))).alloc (.cells #[.int .i64 0] 47 (0,0)))).alloc (.map #[] 0))).alloc (.cells #[.map (some (w.heap.size+1+1+1+1+1))] 280 (0,0)))).alloc (.cells #[(.func (Fn.func 212) #[] #[.pointer (some ⟨w.heap.size+1+1+1+1+1+1,0,none⟩),.pointer (some ⟨w.heap.size,0,none⟩),.pointer (some ⟨w.heap.size+1+1,0,none⟩),.pointer (some ⟨w.heap.size+1+1+1+1+1+1+1,0,none⟩)])] 281 (0,0))).heap[w.heap.size]?=some (.cells #[.pointer (some ⟨wb,0,none⟩)] 223 (0,0)):=(heap_alloc_old _ _ (heap_lt n0_6)).trans n0_6
 have z1:(w.alloc (.cells #[.pointer (some ⟨wb,0,none⟩)] 223 (0,0))).heap.size=w.heap.size+1:=by first | rfl | simp only [World.size_alloc]
 have n1:(((w.alloc (.cells #[.pointer (some ⟨wb,0,none⟩)] 223 (0,0)))).alloc (.cells #[.int .u32 f,.int .u32 g,.int .u32 h] 228 (0,0))).heap[w.heap.size+1]?=some (.cells #[.int .u32 f,.int .u32 g,.int .u32 h] 228 (0,0)):=by
  have e:=heap_alloc_new (w.alloc (.cells #[.pointer (some ⟨wb,0,none⟩)] 223 (0,0))) (.cells #[.int .u32 f,.int .u32 g,.int .u32 h] 228 (0,0))
  rw [z1] at e;exact e
 have n1_2:(((((w.alloc (.cells #[.pointer (some ⟨wb,0,none⟩)] 223 (0,0)))).alloc (.cells #[.int .u32 f,.int .u32 g,.int .u32 h] 228 (0,0)))).alloc (.cells #[.func (Fn.func fl) #[] caps] 229 (0,0))).heap[w.heap.size+1]?=some (.cells #[.int .u32 f,.int .u32 g,.int .u32 h] 228 (0,0)):=(heap_alloc_old _ _ (heap_lt n1)).trans n1;have n1_3:(((((((w.alloc (.cells #[.pointer (some ⟨wb,0,none⟩)] 223 (0,0)))).alloc (.cells #[.int .u32 f,.int .u32 g,.int .u32 h] 228 (0,0)))).alloc (.cells #[.func (Fn.func fl) #[] caps] 229 (0,0)))).alloc (.cells #[.int .u32 0] 77 (0,0))).heap[w.heap.size+1]?=some (.cells #[.int .u32 f,.int .u32 g,.int .u32 h] 228 (0,0)):=(heap_alloc_old _ _ (heap_lt n1_2)).trans n1_2;have n1_4:(((((((((w.alloc (.cells #[.pointer (some ⟨wb,0,none⟩)] 223 (0,0)))).alloc (.cells #[.int .u32 f,.int .u32 g,.int .u32 h] 228 (0,0)))).alloc (.cells #[.func (Fn.func fl) #[] caps] 229 (0,0)))).alloc (.cells #[.int .u32 0] 77 (0,0)))).alloc (.cells #[.int .i64 0] 47 (0,0))).heap[w.heap.size+1]?=some (.cells #[.int .u32 f,.int .u32 g,.int .u32 h] 228 (0,0)):=(heap_alloc_old _ _ (heap_lt n1_3)).trans n1_3;have n1_5:(((((((((((w.alloc (.cells #[.pointer (some ⟨wb,0,none⟩)] 223 (0,0)))).alloc (.cells #[.int .u32 f,.int .u32 g,.int .u32 h] 228 (0,0)))).alloc (.cells #[.func (Fn.func fl) #[] caps] 229 (0,0)))).alloc (.cells #[.int .u32 0] 77 (0,0)))).alloc (.cells #[.int .i64 0] 47 (0,0)))).alloc (.map #[] 0)).heap[w.heap.size+1]?=some (.cells #[.int .u32 f,.int .u32 g,.int .u32 h] 228 (0,0)):=(heap_alloc_old _ _ (heap_lt n1_4)).trans n1_4;have n1_6:(((((((((((((w.alloc (.cells #[.pointer (some ⟨wb,0,none⟩)] 223 (0,0)))).alloc (.cells #[.int .u32 f,.int .u32 g,.int .u32 h] 228 (0,0)))).alloc (.cells #[.func (Fn.func fl) #[] caps] 229 (0,0)))).alloc (.cells #[.int .u32 0] 77 (0,0)))).alloc (.cells #[.int .i64 0] 47 (0,0)))).alloc (.map #[] 0))).alloc (.cells #[.map (some (w.heap.size+1+1+1+1+1))] 280 (0,0))).heap[w.heap.size+1]?=some (.cells #[.int .u32 f,.int .u32 g,.int .u32 h] 228 (0,0)):=(heap_alloc_old _ _ (heap_lt n1_5)).trans n1_5;have n1_7:(((((((((((((((w.alloc (.cells #[.pointer (some ⟨wb,0,none⟩)] 223 (0,0)))).alloc (.cells #[.int .u32 f,.int .u32 g,.int .u32 h] 228 (0,0)))).alloc (.cells #[.func (Fn.func fl) #[] caps] 229 (0,0)))).alloc (.cells #[.int .u32 0] 77 (0,0)))).alloc (.cells #[.int .i64 0] 47 (0,0)))).alloc (.map #[] 0))).alloc (.cells #[.map (some (w.heap.size+1+1+1+1+1))] 280 (0,0)))).alloc (.cells #[(.func (Fn.func 212) #[] #[.pointer (some ⟨w.heap.size+1+1+1+1+1+1,0,none⟩),.pointer (some ⟨w.heap.size,0,none⟩),.pointer (some ⟨w.heap.size+1+1,0,none⟩),.pointer (some ⟨w.heap.size+1+1+1+1+1+1+1,0,none⟩)])] 281 (0,0))).heap[w.heap.size+1]?=some (.cells #[.int .u32 f,.int .u32 g,.int .u32 h] 228 (0,0)):=(heap_alloc_old _ _ (heap_lt n1_6)).trans n1_6
 have z2:(((w.alloc (.cells #[.pointer (some ⟨wb,0,none⟩)] 223 (0,0)))).alloc (.cells #[.int .u32 f,.int .u32 g,.int .u32 h] 228 (0,0))).heap.size=w.heap.size+1+1:=by first | rfl | simp only [World.size_alloc]
 have n2:(((((w.alloc (.cells #[.pointer (some ⟨wb,0,none⟩)] 223 (0,0)))).alloc (.cells #[.int .u32 f,.int .u32 g,.int .u32 h] 228 (0,0)))).alloc (.cells #[.func (Fn.func fl) #[] caps] 229 (0,0))).heap[w.heap.size+1+1]?=some (.cells #[.func (Fn.func fl) #[] caps] 229 (0,0)):=by
  have e:=heap_alloc_new (((w.alloc (.cells #[.pointer (some ⟨wb,0,none⟩)] 223 (0,0)))).alloc (.cells #[.int .u32 f,.int .u32 g,.int .u32 h] 228 (0,0))) (.cells #[.func (Fn.func fl) #[] caps] 229 (0,0))
  rw [z2] at e;exact e
 have n2_3:(((((((w.alloc (.cells #[.pointer (some ⟨wb,0,none⟩)] 223 (0,0)))).alloc (.cells #[.int .u32 f,.int .u32 g,.int .u32 h] 228 (0,0)))).alloc (.cells #[.func (Fn.func fl) #[] caps] 229 (0,0)))).alloc (.cells #[.int .u32 0] 77 (0,0))).heap[w.heap.size+1+1]?=some (.cells #[.func (Fn.func fl) #[] caps] 229 (0,0)):=(heap_alloc_old _ _ (heap_lt n2)).trans n2;have n2_4:(((((((((w.alloc (.cells #[.pointer (some ⟨wb,0,none⟩)] 223 (0,0)))).alloc (.cells #[.int .u32 f,.int .u32 g,.int .u32 h] 228 (0,0)))).alloc (.cells #[.func (Fn.func fl) #[] caps] 229 (0,0)))).alloc (.cells #[.int .u32 0] 77 (0,0)))).alloc (.cells #[.int .i64 0] 47 (0,0))).heap[w.heap.size+1+1]?=some (.cells #[.func (Fn.func fl) #[] caps] 229 (0,0)):=(heap_alloc_old _ _ (heap_lt n2_3)).trans n2_3;have n2_5:(((((((((((w.alloc (.cells #[.pointer (some ⟨wb,0,none⟩)] 223 (0,0)))).alloc (.cells #[.int .u32 f,.int .u32 g,.int .u32 h] 228 (0,0)))).alloc (.cells #[.func (Fn.func fl) #[] caps] 229 (0,0)))).alloc (.cells #[.int .u32 0] 77 (0,0)))).alloc (.cells #[.int .i64 0] 47 (0,0)))).alloc (.map #[] 0)).heap[w.heap.size+1+1]?=some (.cells #[.func (Fn.func fl) #[] caps] 229 (0,0)):=(heap_alloc_old _ _ (heap_lt n2_4)).trans n2_4;have n2_6:(((((((((((((w.alloc (.cells #[.pointer (some ⟨wb,0,none⟩)] 223 (0,0)))).alloc (.cells #[.int .u32 f,.int .u32 g,.int .u32 h] 228 (0,0)))).alloc (.cells #[.func (Fn.func fl) #[] caps] 229 (0,0)))).alloc (.cells #[.int .u32 0] 77 (0,0)))).alloc (.cells #[.int .i64 0] 47 (0,0)))).alloc (.map #[] 0))).alloc (.cells #[.map (some (w.heap.size+1+1+1+1+1))] 280 (0,0))).heap[w.heap.size+1+1]?=some (.cells #[.func (Fn.func fl) #[] caps] 229 (0,0)):=(heap_alloc_old _ _ (heap_lt n2_5)).trans n2_5;have n2_7:(((((((((((((((w.alloc (.cells #[.pointer (some ⟨wb,0,none⟩)] 223 (0,0)))).alloc (.cells #[.int .u32 f,.int .u32 g,.int .u32 h] 228 (0,0)))).alloc (.cells #[.func (Fn.func fl) #[] caps] 229 (0,0)))).alloc (.cells #[.int .u32 0] 77 (0,0)))).alloc (.cells #[.int .i64 0] 47 (0,0)))).alloc (.map #[] 0))).alloc (.cells #[.map (some (w.heap.size+1+1+1+1+1))] 280 (0,0)))).alloc (.cells #[(.func (Fn.func 212) #[] #[.pointer (some ⟨w.heap.size+1+1+1+1+1+1,0,none⟩),.pointer (some ⟨w.heap.size,0,none⟩),.pointer (some ⟨w.heap.size+1+1,0,none⟩),.pointer (some ⟨w.heap.size+1+1+1+1+1+1+1,0,none⟩)])] 281 (0,0))).heap[w.heap.size+1+1]?=some (.cells #[.func (Fn.func fl) #[] caps] 229 (0,0)):=(heap_alloc_old _ _ (heap_lt n2_6)).trans n2_6
 have z3:(((((w.alloc (.cells #[.pointer (some ⟨wb,0,none⟩)] 223 (0,0)))).alloc (.cells #[.int .u32 f,.int .u32 g,.int .u32 h] 228 (0,0)))).alloc (.cells #[.func (Fn.func fl) #[] caps] 229 (0,0))).heap.size=w.heap.size+1+1+1:=by first | rfl | simp only [World.size_alloc]
 have n3:(((((((w.alloc (.cells #[.pointer (some ⟨wb,0,none⟩)] 223 (0,0)))).alloc (.cells #[.int .u32 f,.int .u32 g,.int .u32 h] 228 (0,0)))).alloc (.cells #[.func (Fn.func fl) #[] caps] 229 (0,0)))).alloc (.cells #[.int .u32 0] 77 (0,0))).heap[w.heap.size+1+1+1]?=some (.cells #[.int .u32 0] 77 (0,0)):=by
  have e:=heap_alloc_new (((((w.alloc (.cells #[.pointer (some ⟨wb,0,none⟩)] 223 (0,0)))).alloc (.cells #[.int .u32 f,.int .u32 g,.int .u32 h] 228 (0,0)))).alloc (.cells #[.func (Fn.func fl) #[] caps] 229 (0,0))) (.cells #[.int .u32 0] 77 (0,0))
  rw [z3] at e;exact e
 have n3_4:(((((((((w.alloc (.cells #[.pointer (some ⟨wb,0,none⟩)] 223 (0,0)))).alloc (.cells #[.int .u32 f,.int .u32 g,.int .u32 h] 228 (0,0)))).alloc (.cells #[.func (Fn.func fl) #[] caps] 229 (0,0)))).alloc (.cells #[.int .u32 0] 77 (0,0)))).alloc (.cells #[.int .i64 0] 47 (0,0))).heap[w.heap.size+1+1+1]?=some (.cells #[.int .u32 0] 77 (0,0)):=(heap_alloc_old _ _ (heap_lt n3)).trans n3;have n3_5:(((((((((((w.alloc (.cells #[.pointer (some ⟨wb,0,none⟩)] 223 (0,0)))).alloc (.cells #[.int .u32 f,.int .u32 g,.int .u32 h] 228 (0,0)))).alloc (.cells #[.func (Fn.func fl) #[] caps] 229 (0,0)))).alloc (.cells #[.int .u32 0] 77 (0,0)))).alloc (.cells #[.int .i64 0] 47 (0,0)))).alloc (.map #[] 0)).heap[w.heap.size+1+1+1]?=some (.cells #[.int .u32 0] 77 (0,0)):=(heap_alloc_old _ _ (heap_lt n3_4)).trans n3_4;have n3_6:(((((((((((((w.alloc (.cells #[.pointer (some ⟨wb,0,none⟩)] 223 (0,0)))).alloc (.cells #[.int .u32 f,.int .u32 g,.int .u32 h] 228 (0,0)))).alloc (.cells #[.func (Fn.func fl) #[] caps] 229 (0,0)))).alloc (.cells #[.int .u32 0] 77 (0,0)))).alloc (.cells #[.int .i64 0] 47 (0,0)))).alloc (.map #[] 0))).alloc (.cells #[.map (some (w.heap.size+1+1+1+1+1))] 280 (0,0))).heap[w.heap.size+1+1+1]?=some (.cells #[.int .u32 0] 77 (0,0)):=(heap_alloc_old _ _ (heap_lt n3_5)).trans n3_5;have n3_7:(((((((((((((((w.alloc (.cells #[.pointer (some ⟨wb,0,none⟩)] 223 (0,0)))).alloc (.cells #[.int .u32 f,.int .u32 g,.int .u32 h] 228 (0,0)))).alloc (.cells #[.func (Fn.func fl) #[] caps] 229 (0,0)))).alloc (.cells #[.int .u32 0] 77 (0,0)))).alloc (.cells #[.int .i64 0] 47 (0,0)))).alloc (.map #[] 0))).alloc (.cells #[.map (some (w.heap.size+1+1+1+1+1))] 280 (0,0)))).alloc (.cells #[(.func (Fn.func 212) #[] #[.pointer (some ⟨w.heap.size+1+1+1+1+1+1,0,none⟩),.pointer (some ⟨w.heap.size,0,none⟩),.pointer (some ⟨w.heap.size+1+1,0,none⟩),.pointer (some ⟨w.heap.size+1+1+1+1+1+1+1,0,none⟩)])] 281 (0,0))).heap[w.heap.size+1+1+1]?=some (.cells #[.int .u32 0] 77 (0,0)):=(heap_alloc_old _ _ (heap_lt n3_6)).trans n3_6
 have z4:(((((((w.alloc (.cells #[.pointer (some ⟨wb,0,none⟩)] 223 (0,0)))).alloc (.cells #[.int .u32 f,.int .u32 g,.int .u32 h] 228 (0,0)))).alloc (.cells #[.func (Fn.func fl) #[] caps] 229 (0,0)))).alloc (.cells #[.int .u32 0] 77 (0,0))).heap.size=w.heap.size+1+1+1+1:=by first | rfl | simp only [World.size_alloc]
 have n4:(((((((((w.alloc (.cells #[.pointer (some ⟨wb,0,none⟩)] 223 (0,0)))).alloc (.cells #[.int .u32 f,.int .u32 g,.int .u32 h] 228 (0,0)))).alloc (.cells #[.func (Fn.func fl) #[] caps] 229 (0,0)))).alloc (.cells #[.int .u32 0] 77 (0,0)))).alloc (.cells #[.int .i64 0] 47 (0,0))).heap[w.heap.size+1+1+1+1]?=some (.cells #[.int .i64 0] 47 (0,0)):=by
  have e:=heap_alloc_new (((((((w.alloc (.cells #[.pointer (some ⟨wb,0,none⟩)] 223 (0,0)))).alloc (.cells #[.int .u32 f,.int .u32 g,.int .u32 h] 228 (0,0)))).alloc (.cells #[.func (Fn.func fl) #[] caps] 229 (0,0)))).alloc (.cells #[.int .u32 0] 77 (0,0))) (.cells #[.int .i64 0] 47 (0,0))
  rw [z4] at e;exact e
 have n4_5:(((((((((((w.alloc (.cells #[.pointer (some ⟨wb,0,none⟩)] 223 (0,0)))).alloc (.cells #[.int .u32 f,.int .u32 g,.int .u32 h] 228 (0,0)))).alloc (.cells #[.func (Fn.func fl) #[] caps] 229 (0,0)))).alloc (.cells #[.int .u32 0] 77 (0,0)))).alloc (.cells #[.int .i64 0] 47 (0,0)))).alloc (.map #[] 0)).heap[w.heap.size+1+1+1+1]?=some (.cells #[.int .i64 0] 47 (0,0)):=(heap_alloc_old _ _ (heap_lt n4)).trans n4;have n4_6:(((((((((((((w.alloc (.cells #[.pointer (some ⟨wb,0,none⟩)] 223 (0,0)))).alloc (.cells #[.int .u32 f,.int .u32 g,.int .u32 h] 228 (0,0)))).alloc (.cells #[.func (Fn.func fl) #[] caps] 229 (0,0)))).alloc (.cells #[.int .u32 0] 77 (0,0)))).alloc (.cells #[.int .i64 0] 47 (0,0)))).alloc (.map #[] 0))).alloc (.cells #[.map (some (w.heap.size+1+1+1+1+1))] 280 (0,0))).heap[w.heap.size+1+1+1+1]?=some (.cells #[.int .i64 0] 47 (0,0)):=(heap_alloc_old _ _ (heap_lt n4_5)).trans n4_5;have n4_7:(((((((((((((((w.alloc (.cells #[.pointer (some ⟨wb,0,none⟩)] 223 (0,0)))).alloc (.cells #[.int .u32 f,.int .u32 g,.int .u32 h] 228 (0,0)))).alloc (.cells #[.func (Fn.func fl) #[] caps] 229 (0,0)))).alloc (.cells #[.int .u32 0] 77 (0,0)))).alloc (.cells #[.int .i64 0] 47 (0,0)))).alloc (.map #[] 0))).alloc (.cells #[.map (some (w.heap.size+1+1+1+1+1))] 280 (0,0)))).alloc (.cells #[(.func (Fn.func 212) #[] #[.pointer (some ⟨w.heap.size+1+1+1+1+1+1,0,none⟩),.pointer (some ⟨w.heap.size,0,none⟩),.pointer (some ⟨w.heap.size+1+1,0,none⟩),.pointer (some ⟨w.heap.size+1+1+1+1+1+1+1,0,none⟩)])] 281 (0,0))).heap[w.heap.size+1+1+1+1]?=some (.cells #[.int .i64 0] 47 (0,0)):=(heap_alloc_old _ _ (heap_lt n4_6)).trans n4_6
 have z5:(((((((((w.alloc (.cells #[.pointer (some ⟨wb,0,none⟩)] 223 (0,0)))).alloc (.cells #[.int .u32 f,.int .u32 g,.int .u32 h] 228 (0,0)))).alloc (.cells #[.func (Fn.func fl) #[] caps] 229 (0,0)))).alloc (.cells #[.int .u32 0] 77 (0,0)))).alloc (.cells #[.int .i64 0] 47 (0,0))).heap.size=w.heap.size+1+1+1+1+1:=by first | rfl | simp only [World.size_alloc]
 have n5:(((((((((((w.alloc (.cells #[.pointer (some ⟨wb,0,none⟩)] 223 (0,0)))).alloc (.cells #[.int .u32 f,.int .u32 g,.int .u32 h] 228 (0,0)))).alloc (.cells #[.func (Fn.func fl) #[] caps] 229 (0,0)))).alloc (.cells #[.int .u32 0] 77 (0,0)))).alloc (.cells #[.int .i64 0] 47 (0,0)))).alloc (.map #[] 0)).heap[w.heap.size+1+1+1+1+1]?=some (.map #[] 0):=by
  have e:=heap_alloc_new (((((((((w.alloc (.cells #[.pointer (some ⟨wb,0,none⟩)] 223 (0,0)))).alloc (.cells #[.int .u32 f,.int .u32 g,.int .u32 h] 228 (0,0)))).alloc (.cells #[.func (Fn.func fl) #[] caps] 229 (0,0)))).alloc (.cells #[.int .u32 0] 77 (0,0)))).alloc (.cells #[.int .i64 0] 47 (0,0))) (.map #[] 0)
  rw [z5] at e;exact e
 have n5_6:(((((((((((((w.alloc (.cells #[.pointer (some ⟨wb,0,none⟩)] 223 (0,0)))).alloc (.cells #[.int .u32 f,.int .u32 g,.int .u32 h] 228 (0,0)))).alloc (.cells #[.func (Fn.func fl) #[] caps] 229 (0,0)))).alloc (.cells #[.int .u32 0] 77 (0,0)))).alloc (.cells #[.int .i64 0] 47 (0,0)))).alloc (.map #[] 0))).alloc (.cells #[.map (some (w.heap.size+1+1+1+1+1))] 280 (0,0))).heap[w.heap.size+1+1+1+1+1]?=some (.map #[] 0):=(heap_alloc_old _ _ (heap_lt n5)).trans n5;have n5_7:(((((((((((((((w.alloc (.cells #[.pointer (some ⟨wb,0,none⟩)] 223 (0,0)))).alloc (.cells #[.int .u32 f,.int .u32 g,.int .u32 h] 228 (0,0)))).alloc (.cells #[.func (Fn.func fl) #[] caps] 229 (0,0)))).alloc (.cells #[.int .u32 0] 77 (0,0)))).alloc (.cells #[.int .i64 0] 47 (0,0)))).alloc (.map #[] 0))).alloc (.cells #[.map (some (w.heap.size+1+1+1+1+1))] 280 (0,0)))).alloc (.cells #[(.func (Fn.func 212) #[] #[.pointer (some ⟨w.heap.size+1+1+1+1+1+1,0,none⟩),.pointer (some ⟨w.heap.size,0,none⟩),.pointer (some ⟨w.heap.size+1+1,0,none⟩),.pointer (some ⟨w.heap.size+1+1+1+1+1+1+1,0,none⟩)])] 281 (0,0))).heap[w.heap.size+1+1+1+1+1]?=some (.map #[] 0):=(heap_alloc_old _ _ (heap_lt n5_6)).trans n5_6
 have z6:(((((((((((w.alloc (.cells #[.pointer (some ⟨wb,0,none⟩)] 223 (0,0)))).alloc (.cells #[.int .u32 f,.int .u32 g,.int .u32 h] 228 (0,0)))).alloc (.cells #[.func (Fn.func fl) #[] caps] 229 (0,0)))).alloc (.cells #[.int .u32 0] 77 (0,0)))).alloc (.cells #[.int .i64 0] 47 (0,0)))).alloc (.map #[] 0)).heap.size=w.heap.size+1+1+1+1+1+1:=by first | rfl | simp only [World.size_alloc]
 have n6:(((((((((((((w.alloc (.cells #[.pointer (some ⟨wb,0,none⟩)] 223 (0,0)))).alloc (.cells #[.int .u32 f,.int .u32 g,.int .u32 h] 228 (0,0)))).alloc (.cells #[.func (Fn.func fl) #[] caps] 229 (0,0)))).alloc (.cells #[.int .u32 0] 77 (0,0)))).alloc (.cells #[.int .i64 0] 47 (0,0)))).alloc (.map #[] 0))).alloc (.cells #[.map (some (w.heap.size+1+1+1+1+1))] 280 (0,0))).heap[w.heap.size+1+1+1+1+1+1]?=some (.cells #[.map (some (w.heap.size+1+1+1+1+1))] 280 (0,0)):=by
  have e:=heap_alloc_new (((((((((((w.alloc (.cells #[.pointer (some ⟨wb,0,none⟩)] 223 (0,0)))).alloc (.cells #[.int .u32 f,.int .u32 g,.int .u32 h] 228 (0,0)))).alloc (.cells #[.func (Fn.func fl) #[] caps] 229 (0,0)))).alloc (.cells #[.int .u32 0] 77 (0,0)))).alloc (.cells #[.int .i64 0] 47 (0,0)))).alloc (.map #[] 0)) (.cells #[.map (some (w.heap.size+1+1+1+1+1))] 280 (0,0))
  rw [z6] at e;exact e
 have n6_7:(((((((((((((((w.alloc (.cells #[.pointer (some ⟨wb,0,none⟩)] 223 (0,0)))).alloc (.cells #[.int .u32 f,.int .u32 g,.int .u32 h] 228 (0,0)))).alloc (.cells #[.func (Fn.func fl) #[] caps] 229 (0,0)))).alloc (.cells #[.int .u32 0] 77 (0,0)))).alloc (.cells #[.int .i64 0] 47 (0,0)))).alloc (.map #[] 0))).alloc (.cells #[.map (some (w.heap.size+1+1+1+1+1))] 280 (0,0)))).alloc (.cells #[(.func (Fn.func 212) #[] #[.pointer (some ⟨w.heap.size+1+1+1+1+1+1,0,none⟩),.pointer (some ⟨w.heap.size,0,none⟩),.pointer (some ⟨w.heap.size+1+1,0,none⟩),.pointer (some ⟨w.heap.size+1+1+1+1+1+1+1,0,none⟩)])] 281 (0,0))).heap[w.heap.size+1+1+1+1+1+1]?=some (.cells #[.map (some (w.heap.size+1+1+1+1+1))] 280 (0,0)):=(heap_alloc_old _ _ (heap_lt n6)).trans n6
 have z7:(((((((((((((w.alloc (.cells #[.pointer (some ⟨wb,0,none⟩)] 223 (0,0)))).alloc (.cells #[.int .u32 f,.int .u32 g,.int .u32 h] 228 (0,0)))).alloc (.cells #[.func (Fn.func fl) #[] caps] 229 (0,0)))).alloc (.cells #[.int .u32 0] 77 (0,0)))).alloc (.cells #[.int .i64 0] 47 (0,0)))).alloc (.map #[] 0))).alloc (.cells #[.map (some (w.heap.size+1+1+1+1+1))] 280 (0,0))).heap.size=w.heap.size+1+1+1+1+1+1+1:=by first | rfl | simp only [World.size_alloc]
 have n7:(((((((((((((((w.alloc (.cells #[.pointer (some ⟨wb,0,none⟩)] 223 (0,0)))).alloc (.cells #[.int .u32 f,.int .u32 g,.int .u32 h] 228 (0,0)))).alloc (.cells #[.func (Fn.func fl) #[] caps] 229 (0,0)))).alloc (.cells #[.int .u32 0] 77 (0,0)))).alloc (.cells #[.int .i64 0] 47 (0,0)))).alloc (.map #[] 0))).alloc (.cells #[.map (some (w.heap.size+1+1+1+1+1))] 280 (0,0)))).alloc (.cells #[(.func (Fn.func 212) #[] #[.pointer (some ⟨w.heap.size+1+1+1+1+1+1,0,none⟩),.pointer (some ⟨w.heap.size,0,none⟩),.pointer (some ⟨w.heap.size+1+1,0,none⟩),.pointer (some ⟨w.heap.size+1+1+1+1+1+1+1,0,none⟩)])] 281 (0,0))).heap[w.heap.size+1+1+1+1+1+1+1]?=some (.cells #[(.func (Fn.func 212) #[] #[.pointer (some ⟨w.heap.size+1+1+1+1+1+1,0,none⟩),.pointer (some ⟨w.heap.size,0,none⟩),.pointer (some ⟨w.heap.size+1+1,0,none⟩),.pointer (some ⟨w.heap.size+1+1+1+1+1+1+1,0,none⟩)])] 281 (0,0)):=by
  have e:=heap_alloc_new (((((((((((((w.alloc (.cells #[.pointer (some ⟨wb,0,none⟩)] 223 (0,0)))).alloc (.cells #[.int .u32 f,.int .u32 g,.int .u32 h] 228 (0,0)))).alloc (.cells #[.func (Fn.func fl) #[] caps] 229 (0,0)))).alloc (.cells #[.int .u32 0] 77 (0,0)))).alloc (.cells #[.int .i64 0] 47 (0,0)))).alloc (.map #[] 0))).alloc (.cells #[.map (some (w.heap.size+1+1+1+1+1))] 280 (0,0))) (.cells #[(.func (Fn.func 212) #[] #[.pointer (some ⟨w.heap.size+1+1+1+1+1+1,0,none⟩),.pointer (some ⟨w.heap.size,0,none⟩),.pointer (some ⟨w.heap.size+1+1,0,none⟩),.pointer (some ⟨w.heap.size+1+1+1+1+1+1+1,0,none⟩)])] 281 (0,0))
  rw [z7] at e;exact e
 refine ⟨?_,n0_7,n1_7,n2_7,n3_7,n4_7,n5_7,n6_7,n7,((((((((Upd.refl [] w).alloc _).alloc _).alloc _).alloc _).alloc _).alloc _).alloc _).alloc _⟩;have e:=heap_alloc_new (((((((((((((w.alloc (.cells #[.pointer (some ⟨wb,0,none⟩)] 223 (0,0)))).alloc (.cells #[.int .u32 f,.int .u32 g,.int .u32 h] 228 (0,0)))).alloc (.cells #[.func (Fn.func fl) #[] caps] 229 (0,0)))).alloc (.cells #[.int .u32 0] 77 (0,0)))).alloc (.cells #[.int .i64 0] 47 (0,0)))).alloc (.map #[] 0))).alloc (.cells #[.map (some (w.heap.size+1+1+1+1+1))] 280 (0,0))) (.cells #[.nilFunc] 281 (0,0))
 rw [z7] at e;exact e
theorem RunB.runM {w W:World} {wb b fl f g h:Nat} {caps:Array Value} {FL:List Nat} {L:Bool->Bool->Bool->Bool} {K0:KV} {T:List DM} {q:KPtr} {lvv:Value} (B:RunB w wb f g h fl caps W) (hW:WK w wb b K0 T q [] lvv (.slice none 0 0)) (hL:LeafOk w fl caps FL L) (hFL:∀ k,k∈FL->k<w.heap.size)
  (hdj:∀ k,k∈wkF wb b q lvv (.slice none 0 0)->k∉FL):RunM W wb b (w.heap.size+1+1+1+1+1+1) (w.heap.size) (w.heap.size+1+1) (w.heap.size+1+1+1+1+1+1+1) (w.heap.size+1+1+1+1+1) fl caps FL L K0 T q [] lvv (.slice none 0 0) (.map []):=by
 have hlt:=hW.lt;refine ⟨hW.upd B.up (by simp),B.b0,B.b6,B.b2,B.b7,own_empty B.b5,fun w' h'=>hL w' fun k hk=>(h' k hk).trans (B.up.block k (hFL k hk) (by simp)),fun k hk=>Nat.lt_of_lt_of_le (hFL k hk) B.up.size,fun k hk=>?_,fun hm=>by have:=hlt _ hm;omega⟩
 rcases List.mem_cons.1 hk with rfl | hk
 ·exact ⟨by omega,by omega,by omega,by omega,fun hm=>by have:=hFL _ hm;omega⟩
 ·have:=hlt k hk
  exact ⟨by omega,by omega,by omega,by omega,hdj k hk⟩
structure RunPost (b:Nat) (K0:KV) (q:KPtr) (L:Bool->Bool->Bool->Bool) (f g h:Nat) (F:List Nat) (w:World) (e:Ending) (w':World):Prop where
 ex:∃ (r:Nat) (code:Int) (K1:KV) (M:List Nat) (K':KV) (T':List DM) (q':KPtr),e=.returned (.tuple #[.int .u32 (endR M r code).1,.int .i64 (endR M r code).2])/\StepR K0 K0 L (K0.SubN (K0.fun3 L f g h)) f g h [] r code K1 M/\K1.Ok/\K1.Uni/\EndX K0 K1 M r code K' /\
  KerIn w' b K' T' q'/\Upd F w w'/\Sub F w (q'.all b)
theorem wrun_spec (wb b fl f g h:Nat) (caps:Array Value) (FL:List Nat) (L:Bool->Bool->Bool->Bool) (K0:KV) (T:List DM) (q:KPtr) (lvv:Value) (w:World) (hW:WK w wb b K0 T q [] lvv (.slice none 0 0)) (hA:AskQ K0 f g h) (hL:LeafOk w fl caps FL L) (hFL:∀ k,k∈FL->k<w.heap.size)
  (hdj:∀ k,k∈wkF wb b q lvv (.slice none 0 0)->k∉FL) (hfl:Enters fl) :
  Calls Tryz.prog 153 #[.pointer (some ⟨wb,0,none⟩),.agg #[.int .u32 f,.int .u32 g,.int .u32 h],.func (Fn.func fl) #[] caps] w fun e w' =>
   RunPost b K0 q L f g h (wkF wb b q lvv (.slice none 0 0)) w e w':=by
 have hmf:∀ (fn:Fn) (first cap:Array Value) (w:World),(Instr.makeFunc fn first cap).run Tryz.prog w=.ok (.func fn first cap) w:=fun _ _ _ _=>rfl
 have hmm:=@run_makeMap Tryz.prog
 have hsf:∀ (a:Addr) (m:Mode) (fn:Fn) (first cap:Array Value) (w:World),(store a (.func fn first cap) m).run Tryz.prog w=stored Tryz.prog w a (.func fn first cap) m:=fun a m fn first cap w=>run_store Tryz.prog w a _ m rfl
 obtain ⟨hb7,hRB⟩:=run_laid w wb f g h fl caps;have c7:=cell_at (j:=0) hb7 rfl;have f7:=frozen_at 0 hb7;have hRM:=hRB.runM hW hL hFL hdj;have hlt:=hW.lt;have HCALL:=Lib.hid (go_spec K0 (K0.fun3 L f g h) wb b (w.heap.size+1+1+1+1+1+1) (w.heap.size) (w.heap.size+1+1) (w.heap.size+1+1+1+1+1+1+1) (w.heap.size+1+1+1+1+1) fl caps FL L lvv hfl enters_go (K0.vars+1) 0 (by omega) f g h K0 T q [] (.slice none 0 0) (.map []) (((((((((((((((w.alloc (.cells #[.pointer (some ⟨wb,0,none⟩)] 223 (0,0)))).alloc (.cells #[.int .u32 f,.int .u32 g,.int .u32 h] 228 (0,0)))).alloc (.cells #[.func (Fn.func fl) #[] caps] 229 (0,0)))).alloc (.cells #[.int .u32 0] 77 (0,0)))).alloc (.cells #[.int .i64 0] 47 (0,0)))).alloc (.map #[] 0))).alloc (.cells #[.map (some (w.heap.size+1+1+1+1+1))] 280 (0,0)))).alloc (.cells #[(.func (Fn.func 212) #[] #[.pointer (some ⟨w.heap.size+1+1+1+1+1+1,0,none⟩),.pointer (some ⟨w.heap.size,0,none⟩),.pointer (some ⟨w.heap.size+1+1,0,none⟩),.pointer (some ⟨w.heap.size+1+1+1+1+1+1+1,0,none⟩)])] 281 (0,0))) hRM hA (Nat.zero_le _) (RunS.start K0 _) (KnownOk.nil K0 L [] K0) ⟨0,fun _=>false,Nat.zero_le _,fun x=>by rw [K0.mix_zero]⟩);have HRB:=Lib.hid hRB;have HLT:=Lib.hid hlt;clear hb7 hRB hRM hlt hW hA hL hFL hdj hfl
 go_enter_defers Tryz.func153,Tryz.ntmps153
 go_wp2_with fail;refine HCALL.out.mono ?_;rintro e w2 ⟨r,code,rfl,⟨K1,M1,T1,q1,mv1,D1,S1,KO1,R2,U2,SB2⟩,hr⟩
 have hn:∀ k,w.heap.size<=k->k≠w.heap.size+1+1+1+1+1->k∉runF (w.heap.size+1+1+1+1+1) wb b q lvv (.slice none 0 0):=fun k hk h5 hm=>by
  rcases List.mem_cons.1 hm with h | h
  ·exact h5 h
  ·have:=HLT.out k h;omega
 have e3:=(U2.block _ (heap_lt HRB.out.b3) (hn _ (by omega) (by omega))).trans HRB.out.b3;have e4:=(U2.block _ (heap_lt HRB.out.b4) (hn _ (by omega) (by omega))).trans HRB.out.b4;have e0:=(U2.block _ (heap_lt HRB.out.b0) (hn _ (by omega) (by omega))).trans HRB.out.b0;have y3:=cell_at (j:=0) e3 rfl;have y4:=cell_at (j:=0) e4 rfl;have g3:=frozen_at 0 e3;have g4:=frozen_at 0 e4;have H2:=Lib.hid (And.intro S1 (And.intro R2 (And.intro U2 (And.intro SB2 (And.intro hr (And.intro hn (And.intro e0 (And.intro e3 e4))))))));clear S1 KO1 R2 U2 SB2 hr hn e3 e4 e0 c7 f7 HCALL;go_wp2_with fail
 have n34:(w.heap.size+1+1+1)≠(w.heap.size+1+1+1+1):=by omega
 have U9:Upd [w.heap.size+1+1+1,w.heap.size+1+1+1+1] w2 ((w2.setCell ⟨w.heap.size+1+1+1,0,none⟩ (.int .u32 r)).setCell ⟨w.heap.size+1+1+1+1,0,none⟩ (.int .i64 code)):=((Upd.refl _ w2).setCell (p:=⟨w.heap.size+1+1+1,0,none⟩) (.inl (by simp)) _).setCell (p:=⟨w.heap.size+1+1+1+1,0,none⟩) (.inl (by simp)) _
 have hn1:∀ k,w.heap.size<=k->k<w.heap.size+1+1+1+1+1+1+1+1->k≠w.heap.size+1+1+1+1+1->k∉wkF wb b q1 lvv mv1:=fun k hk hk8 h5 hm=>by
  rcases H2.out.2.2.2.1 k (List.mem_cons_of_mem _ hm) with h | h
  ·exact H2.out.2.2.2.2.2.1 k hk h5 h
  ·have:=heap_lt HRB.out.b7;omega
 have W9:=H2.out.2.1.wk.upd U9 (fun k hk hm=>by
  simp at hm
  rcases hm with rfl | rfl
  ·exact hn1 _ (by omega) (by omega) (by omega) hk
  ·exact hn1 _ (by omega) (by omega) (by omega) hk)
 have b9:((w2.setCell ⟨w.heap.size+1+1+1,0,none⟩ (.int .u32 r)).setCell ⟨w.heap.size+1+1+1+1,0,none⟩ (.int .i64 code)).heap[w.heap.size]?=_:=(U9.block _ (heap_lt H2.out.2.2.2.2.2.2.1) (by simp;omega)).trans H2.out.2.2.2.2.2.2.1
 have b93:((w2.setCell ⟨w.heap.size+1+1+1,0,none⟩ (.int .u32 r)).setCell ⟨w.heap.size+1+1+1+1,0,none⟩ (.int .i64 code)).heap[w.heap.size+1+1+1]?=some (.cells #[.int .u32 r] 77 (0,0)):=by
  rw [heap_set_ne n34,heap_set_eq H2.out.2.2.2.2.2.2.2.1];rfl
 have b94:((w2.setCell ⟨w.heap.size+1+1+1,0,none⟩ (.int .u32 r)).setCell ⟨w.heap.size+1+1+1+1,0,none⟩ (.int .i64 code)).heap[w.heap.size+1+1+1+1]?=some (.cells #[.int .i64 code] 47 (0,0)):=by
  have e:(w2.setCell ⟨w.heap.size+1+1+1,0,none⟩ (.int .u32 r)).heap[w.heap.size+1+1+1+1]?=w2.heap[w.heap.size+1+1+1+1]?:=heap_set_ne (Ne.symm n34)
  rw [heap_set_eq (e.trans H2.out.2.2.2.2.2.2.2.2)];rfl
 have hlen:=H2.out.1.run.len H2.out.2.1.wk.ker.ok;refine leaves_cons (f:=210) (args:=#[.pointer (some ⟨w.heap.size,0,none⟩),.pointer (some ⟨w.heap.size+1+1+1,0,none⟩),.pointer (some ⟨w.heap.size+1+1+1+1,0,none⟩)]) (by simp) (by simp [go_sem]) ?_;refine (run1_spec wb b (w.heap.size) (w.heap.size+1+1+1) (w.heap.size+1+1+1+1) r code K0 K1 T1 q1 M1 lvv mv1 .returning _ W9 (by have:=hlen.1;omega) H2.out.2.2.2.2.1 hlen.2 H2.out.1.run.hd H2.out.1.run.tr b9 b93 b94 (hn1 _ (by omega) (by omega) (by omega)) (hn1 _ (by omega) (by omega) (by omega)) n34).mono ?_;rintro e u' w3 ⟨rfl,rfl,z1,z2,hY⟩;have HY:=Lib.hid hY
 have HF:Hid (RunPost b K0 q L f g h (wkF wb b q lvv (.slice none 0 0)) w (.returned (.tuple #[.int .u32 (endR M1 r code).1,.int .i64 (endR M1 r code).2])) w3):=by
  obtain ⟨K',T',q',hk,hu,hs,hx⟩:=HY.out.ex;have s2:=HRB.out.up.size;have s3:=H2.out.2.2.1.size
  have U12:Upd (wkF wb b q lvv (.slice none 0 0)) w w2:=(HRB.out.up.mono (by simp):Upd (wkF wb b q lvv (.slice none 0 0)) w _).then H2.out.2.2.1 (fun x hx=>by
   rcases List.mem_cons.1 hx with h | h
   ·right;omega
   ·exact .inl h)
  have SB:Sub (wkF wb b q lvv (.slice none 0 0)) w (wkF wb b q1 lvv mv1):=fun k hk=>by
   rcases H2.out.2.2.2.1 k (List.mem_cons_of_mem _ hk) with h | h
   ·rcases List.mem_cons.1 h with h | h
    ·right;omega
    ·exact .inl h
   ·right;omega
  have U23:=U12.then U9 (fun x hx=>by
   simp at hx
   rcases hx with rfl | rfl
   ·right;omega
   ·right;omega)
  have z:=U9.size;refine ⟨r,code,K1,M1,K',T',q',rfl,H2.out.1,H2.out.2.1.wk.ker.ok,H2.out.2.1.wk.ker.ti.uni H2.out.2.1.wk.ker.ok.wf,hx,hk,U23.then hu (fun x hx=>?_),fun k hk=>?_⟩
  ·simp at hx
   rcases hx with rfl | rfl | hx
   ·right;omega
   ·right;omega
   ·exact SB x hx
  ·rcases hs k hk with h | h
   ·exact SB k (List.mem_append.2 (.inl h))
   ·right
    have:w2.heap.size<=k:=Nat.le_trans z h;omega
 clear hY W9 b9 b93 b94 U9 y3 y4 g3 g4 HY;generalize (endR M1 r code).1=a at z1 HF;generalize (endR M1 r code).2=c at z2 HF
 simp [Leaves,settle,results,Tryz.results153,go_sem,z1,z2]
 exact HF.out
end Go.Proofs.YtfkopmhpppeheaaGreat
namespace Go.Proofs.YtfkopmhpppeheaaGreat
theorem ext_back {K0 K1 K':KV} (h0:K0.Ok) (h':K'.Ok) (e0:K0.Ext K1) (e':K'.Ext K1) (hd:∀ x,0<K0.hold x->0<K'.hold x):K0.Ext K':=by
 have same:∀ (r:Nat) (p:PlaceV),K0.A.list[r]?=some p->p.taken=true->K'.A.tk r=true->K'.A.list[r]?=some p:=by
  intro r p hp hpt ht
  obtain ⟨p',hp',hpt'⟩:=ArenaV.tk_iff.1 ht;have a:=e0.nd r p hp hpt;have b:=e'.nd r p' hp' hpt'
  rw [a] at b;cases b;exact hp'
 have reach:∀ {r:Nat},K0.Reach r->K'.A.tk r=true:=by
  intro r hr
  induction hr with
  | root h=>exact (h'.wf.ht _ (hd _ h)).2
  | lo _ h2 hp hpt ih=>exact (h'.wf.cl _ _ h2 (same _ _ hp hpt ih) hpt).1
  | hi _ h2 hp hpt ih=>exact (h'.wf.cl _ _ h2 (same _ _ hp hpt ih) hpt).2
 refine ⟨fun r p hp hpt=>same r p hp hpt ?_,by rw [<- e'.pl,e0.pl],by rw [<- e'.vr,e0.vr],by rw [<- e'.od,e0.od],by rw [<- e'.lv,e0.lv]⟩
 by_cases h2:2<=r
 ·exact reach (KV.live_reach h0.wf h0.pos h0.ord _ r h2 (ArenaV.tk_iff.2 ⟨p,hp,hpt⟩) (Nat.le_refl _))
 ·exact h'.tk_const (by omega)
structure OpOk (K0:KV) (t:(Nat->Bool)->Bool) (r:Nat) (K':KV):Prop where
 ext:K0.Ext K'
 tk:K'.A.tk r=true
 den:∀ x,K'.den r x=t x
 hd:∀ x,K'.hold x=K0.hold x+(if x=r/\2<=r then 1 else 0)
 tr:K'.trail=[]
 new:∀ x,K'.A.tk x=true->K0.A.tk x=false->K0.SubN t (K'.den x)
structure OpBad (K0 K':KV):Prop where
 ext:K0.Ext K'
 back:K'.Ext K0
 hd:∀ x,K'.hold x=K0.hold x
 tr:K'.trail=[]\/K'.trail=K0.trail
def OpR (K0:KV) (t:(Nat->Bool)->Bool) (r:Nat) (code:Int) (K':KV):Prop :=
 (code=0/\OpOk K0 t r K')\/(code=8/\r=0/\OpBad K0 K'/\∃ s,K0.A.tk s=true/\(∀ x,K0.den s x=t x)/\K0.hold s=65535)\/(code=9/\r=0/\OpBad K0 K'/\NoFit K0 (K0.SubN t))
theorem op_of {K0 K1 K':KV} {L:Bool->Bool->Bool->Bool} {f g h r:Nat} {code:Int} {M:List Nat} (h0:K0.Ok) (_h1:K1.Ok) (h':K'.Ok) (hA:AskQ K0 f g h) (S:StepR K0 K0 L (K0.SubN (K0.fun3 L f g h)) f g h [] r code K1 M) (X:EndX K0 K1 M r code K') :
  OpR K0 (K0.fun3 L f g h) (endR M r code).1 (endR M r code).2 K':=by
 have back:K0.Ext K':=ext_back h0 h' S.run.ext X.ext fun x hx=>by rw [X.hd];omega
 have bad:(∀ x,K'.hold x=K0.hold x)->¬ (code=0/\r<2)->OpBad K0 K':=fun hd hn=>by
  refine ⟨back,ext_back h' h0 X.ext S.run.ext fun x hx=>by rw [<- hd];exact hx,hd,?_⟩
  by_cases hm:M=[]
  ·right
   rw [X.nil hm hn,S.run.nil hm]
  ·exact .inl (X.tr hm)
 rcases S.ans with ⟨rfl,G⟩ | ⟨rfl,hno⟩
 ·have hden:∀ x,K1.den r x=K0.fun3 L f g h x:=fun x=>by rw [G.den,S.run.ext.fun3 h0.wf hA.t0 hA.t1 hA.t2]
  by_cases hk:r<2\/r∈M
  ·have e1:endR M r 0=(r,0):=by unfold endR;rw [if_neg (by simp),if_pos hk]
   rw [e1];left
   have hd:∀ x,K'.hold x=K0.hold x+(if x=r/\2<=r then 1 else 0):=fun x=>by
    rw [X.hd]
    congr 1
    by_cases ex:x=r
    ·subst ex
     by_cases h2:2<=x
     ·have hm:x∈M:=hk.resolve_left (by omega)
      simp [h2,hm]
     ·simp [h2]
    ·simp [ex]
   have tk:K'.A.tk r=true:=by
    by_cases h2:2<=r
    ·exact (h'.wf.ht r (by rw [hd];simp [h2])).2
    ·exact h'.tk_const (by omega)
   refine ⟨rfl,back,tk,fun x=>?_,hd,?_,fun x t1 t2=>?_⟩
   ·rw [<- X.ext.den h'.wf x tk];exact hden x
   ·by_cases h2:r<2
    ·exact X.tc rfl h2
    ·have hm:r∈M:=hk.resolve_left h2
     exact X.tr (by rintro rfl;cases hm)
   ·have:=S.run.new x (X.ext.tk t1) t2
    have e:K1.den x=K'.den x:=by funext y;exact X.ext.den h'.wf y t1
    rw [<- e];exact this
  ·have h2:¬ r<2:=fun h=>hk (.inl h)
   have hm:r∉M:=fun h=>hk (.inr h)
   have e1:endR M r 0=(0,8):=by unfold endR;rw [if_neg (by simp),if_neg hk]
   rw [e1]
   right;left
   have hf:K0.hold r=65535:=(G.got.resolve_left h2).resolve_left hm;have tk0:=(h0.wf.ht r (by omega)).2;refine ⟨rfl,rfl,bad (fun x=>by rw [X.hd];simp [hm]) (fun h=>h2 h.2),r,tk0,fun x=>?_,hf⟩
   rw [<- S.run.ext.den h0.wf x tk0];exact hden x
 ·have e1:endR M r 9=(0,9):=by unfold endR;rw [if_pos (by decide)]
  rw [e1]
  right;right
  exact ⟨rfl,rfl,bad (fun x=>by rw [X.hd];simp) (by simp),hno⟩
end Go.Proofs.YtfkopmhpppeheaaGreat
namespace Go.Proofs.YtfkopmhpppeheaaGreat
open Go.RowKit Go.Maps Go.ChangeMaps Go.WideShapes
def lvI (K:KV) (i:Nat):List Nat:=(List.range K.vars).map fun v=>if K.lev v<i then K.lev v else 0
theorem lvI_len (K:KV) (i:Nat):(lvI K i).length=K.vars:=by simp [lvI]
theorem lvI_get (K:KV) (i v:Nat) (h:v<K.vars):(lvI K i)[v]?=some (if K.lev v<i then K.lev v else 0):=by simp [lvI,h]
theorem lvI_zero (K:KV):flatN (lvI K 0)=(madeCells #[Value.int .i64 0] K.vars).toList:=by
 rw [idRow_zero]
 simp only [idRow,List.range_zero,flatN,List.map_nil,List.nil_append,Nat.sub_zero,lvI,Nat.not_lt_zero,if_false,List.map_map]
 refine List.ext_getElem? fun j=>?_
 simp [List.getElem?_replicate]
 split <;> simp_all
theorem lvI_set {K:KV} (h:K.Perm) {i v:Nat} (hi:i<K.vars) (hv:K.order.getD i 0=v):(lvI K i).set v i=lvI K (i+1):=by
 have ho:=h.oo i hi;rw [hv] at ho
 refine List.ext_getElem? fun j=>?_
 rw [List.getElem?_set]
 by_cases hj:j<K.vars
 ·rw [lvI_get K i j hj,lvI_get K (i+1) j hj]
  by_cases e:v=j
  ·subst e
   rw [if_pos rfl,if_pos (by rw [lvI_len];exact hj),if_pos (by omega),ho.2]
  ·rw [if_neg e]
   have:K.lev j≠i:=fun e2=>e (h.inj ho.1 hj (by rw [ho.2,e2]))
   congr 1
   by_cases h1:K.lev j<i
   ·rw [if_pos h1,if_pos (by omega)]
   ·rw [if_neg h1,if_neg (by omega)]
 ·have e1:(lvI K i)[j]?=none:=List.getElem?_eq_none (by rw [lvI_len];omega)
  have e2:(lvI K (i+1))[j]?=none:=List.getElem?_eq_none (by rw [lvI_len];omega);rw [e1,e2];split
  ·rename_i e;subst e;omega
  ·rfl
theorem lvI_end {K:KV} (h:K.Perm):lvI K K.vars=K.level:=by
 refine List.ext_getElem? fun j=>?_
 by_cases hj:j<K.vars
 ·rw [lvI_get K _ j hj,if_pos (h.lo j hj).1]
  have:j<K.level.length:=by rw [h.ll];exact hj
  simp [KV.lev,this]
 ·rw [List.getElem?_eq_none (by rw [lvI_len];omega),List.getElem?_eq_none (by rw [h.ll];omega)]
structure BgR (w:World) (wb b gl go:Nat) (cap:Nat) (K:KV) (i:Nat) (wr:World):Prop where
 blk:wr.heap[wb]?=some (.cells #[.pointer (some ⟨b,0,none⟩),.slice (some ⟨gl,0,none⟩) K.vars K.vars,.slice none 0 0] 278 (0,0))
 row:wr.ownsRow w.heap.size 3 1 (.slice (some ⟨gl,0,none⟩) K.vars K.vars) K.vars (flatN (lvI K i))
 ord:wr.ownsRow w.heap.size 3 1 (.slice (some ⟨go,0,none⟩) K.vars cap) K.vars (flatN K.order)
 nwg:wb≠gl
 nog:go≠gl
 lb:w.heap.size<=wb
 up:Upd [] w wr
theorem BgR.step {w wr:World} {wb b gl go cap i v:Nat} {K:KV} (h:BgR w wb b gl go cap K i wr) (hp:K.Perm) (hi:i<K.vars) (hv:K.order.getD i 0=v):BgR w wb b gl go cap K (i+1) (wr.setCell ⟨gl,v,none⟩ (.int .i64 i)):=by
 have hvl:=(hp.oo i hi).1;rw [hv] at hvl;refine ⟨by rw [heap_set_ne h.nwg];exact h.blk,?_,row_ne h.ord (a:=⟨gl,v,none⟩) (by simp [Value.ownBlock];exact Ne.symm h.nog) _,h.nwg,h.nog,h.lb,h.up.setCell (p:=⟨gl,v,none⟩) (.inr (h.row.lt gl rfl).1) _⟩;have:=row_set h.row (j:=v) (by omega) (.int .i64 i);rw [<- lvI_set hp hi hv]
 have e:(flatN (lvI K i)).set v (.int .i64 i)=flatN ((lvI K i).set v i):=by simp [flatN,List.map_set]
 rw [<- e];exact this
theorem BgR.done {w wr:World} {wb b gl go cap:Nat} {K:KV} {T:List DM} {q:KPtr} (h:BgR w wb b gl go cap K K.vars wr) (hk:KerIn w b K T q) :
  WK wr wb b K T q [] (.slice (some ⟨gl,0,none⟩) K.vars K.vars) (.slice none 0 0)/\Upd [] w wr/\∀ k,k∈workF wb (.slice (some ⟨gl,0,none⟩) K.vars K.vars) (.slice none 0 0)->w.heap.size<=k:=by
 have hgl:=h.row.lt gl rfl;have hlb:=h.lb
 have hF:∀ k,k∈workF wb (.slice (some ⟨gl,0,none⟩) K.vars K.vars) (.slice none 0 0)->w.heap.size<=k:=fun k hk=>by
  rcases mem_workF.1 hk with h | h | h
  ·omega
  ·simp [Value.ownBlock] at h;omega
  ·simp [Value.ownBlock] at h
 refine ⟨⟨hk.upd h.up (by simp),⟨h.blk,?_,World.ownsRow_nil _ _ _ _,by simp [Value.ownBlock];exact Ne.symm h.nwg,by simp [Value.ownBlock],fun k _=>by simp [Value.ownBlock]⟩,fun k hm hf=>?_⟩,h.up,hF⟩
 ·have:=row_base h.row (Nat.zero_le _)
  rw [lvI_end hk.ok.ord.pm] at this
  rw [hk.ok.ord.pm.ll];exact this
 ·have:=hk.mem.lt k hm
  have:=hF k hf;omega
theorem begin_ok (b:Nat) (K:KV) (T:List DM) (q:KPtr) (lv:Value) (rs:List Nat) (w:World) (h:KerIn w b K T q) (hrow:w.ownsRow 0 77 1 lv rs.length (flatRefs rs)) (hl:∀ r,r∈rs->K.A.tk r=true) (hlen:rs.length<=1099511627776) :
  Calls Tryz.prog 152 #[.pointer (some ⟨b,0,none⟩),lv] w fun e w' =>
   ∃ (wb:Nat) (lvv:Value),e=.returned (.tuple #[.pointer (some ⟨wb,0,none⟩),.int .i64 0])/\WK w' wb b K T q [] lvv (.slice none 0 0)/\Upd [] w w'/\∀ k,k∈workF wb lvv (.slice none 0 0)->w.heap.size<=k:=by
 obtain ⟨fa,fc,rfl,_⟩:=row_nil_len hrow;obtain ⟨i2,hi2,hz2,hs2,hb2⟩:=info_parts Tryz.infoIntI;have HI:=Lib.hid (And.intro hi2 (And.intro hz2 (And.intro hs2 hb2)));have HK:=Lib.hid h;have HR:=Lib.hid hrow;have HL:=Lib.hid hl;have hvs:=h.ok.wf.vs;have hol:=h.ok.ord.pm.ol;clear h hrow hl hi2 hz2 hs2 hb2
 go_enter Tryz.func152,Tryz.ntmps152
 go_wp2_with fail
 go_loopg [17] rs.length (fun g s17 wr=>∃ i:Nat,rs.length-i=g/\i<=rs.length/\s17=.int .i64 i/\Upd [] w wr)
 case atStart=>exact ⟨0,by omega,by omega,rfl,Upd.refl _ _⟩
 case round =>
  obtain ⟨i,rfl,hi,rfl,hU⟩:=hrel
  by_cases hlt:i<rs.length
  ·obtain ⟨f,hf⟩ : ∃ f,rs[i]?=some f:=⟨_,List.getElem?_eq_getElem hlt⟩
   have htk:=HL.out f (List.mem_of_getElem? hf);obtain ⟨p,hp,hpt⟩:=ArenaV.tk_iff.1 htk;obtain ⟨g,rfl⟩:=row_some HR.out (by omega)
   have hr:=row_keep HR.out fun k hk=>hU.block k (HR.out.lt k hk).2 (by simp)
   have cf:wr.cell? ⟨g,i,none⟩=some (.int .u32 f):=row_cell hr (by simp [flatRefs,hf])
   have hil:(i:Int)<(rs.length:Int):=by omega
   have hf32:=HK.out.ok.ref_lt htk;have HP:=Lib.hid (And.intro hp hpt);have HU:=Lib.hid hU;clear hU hr htk hp hpt hf;go_wp2_with fail;refine (nodeof_yes b f K T q p _ (HK.out.upd HU.out (by simp)).mem (by omega) HP.out.1 HP.out.2).mono ?_;rintro e w1 ⟨rfl,hu⟩;have HU1:=Lib.hid (HU.out.trans hu);clear hu;go_wp2_with fail
   go_roundg (rs.length-(i+1))
   case measure=>omega
   case rel=>exact ⟨i+1,rfl,by omega,by simp,HU1.out.alloc _⟩
  ·have hil:¬ ((i:Int)<(rs.length:Int)):=by omega
   have HU:=Lib.hid hU;clear hU;go_wp2_with fail;refine (vars_spec b K T q _ (HK.out.upd HU.out (by simp)).mem).mono ?_;rintro e w1 ⟨rfl,rfl⟩
   go_wp2_with (refine wpList_make_full _ rfl (.tmp 33) (.tmp 33) 23 rfl w1.heap.size 3 i2 (.int .i64 0) 1 Tryz.underlying23 HI.out.1 HI.out.2.1 HI.out.2.2.1 .i64 .i64 _ _ K.vars rfl rfl rfl rfl (by rw [HI.out.2.2.2];omega) (by unfold maxLen;omega) (Nat.le_refl _) ?_)
   obtain ⟨gl,hgl⟩ : ∃ g,w1.heap.size=g:=⟨_,rfl⟩;rw [hgl]
   intro w2 ho hgr
   have hU2:Upd [] w1 w2:=(Upd.refl [] w1).grown hgr (by simp);have hgl2:=(ho.lt gl rfl).2;have HB2:=Lib.hid (And.intro ho (And.intro hU2 (And.intro hgl hgl2)));clear ho hgr hU2;go_wp2_with fail;have UA:Upd [] w (w2.alloc (.cells #[.pointer (some ⟨b,0,none⟩),.slice (some ⟨gl,0,none⟩) K.vars K.vars,.slice none 0 0] 278 (0,0))):=(HU.out.trans HB2.out.2.1).alloc _;have HUA:=Lib.hid UA;refine (order_spec b K T q _ (HK.out.upd UA (by simp)).mem (by omega) (by omega)).mono ?_;rintro e w3 ⟨go,cap,rfl,ho3,hu3⟩
   have HBG:Hid (BgR w w2.heap.size b gl go cap K 0 w3):=by
    obtain ⟨r1,r2,r3,r4⟩:=HB2.out;have hs:=HU.out.size;have hal:=heap_alloc_new w2 (.cells #[.pointer (some ⟨b,0,none⟩),.slice (some ⟨gl,0,none⟩) K.vars K.vars,.slice none 0 0] 278 (0,0));have hz:=ho3.lt go rfl;rw [World.size_alloc] at hz;have hs2:=r2.size;refine ⟨(hu3.block _ (heap_lt hal) (by simp)).trans hal,?_,?_,by omega,by omega,by omega,HUA.out.trans hu3⟩
    ·rw [lvI_zero]
     refine row_keep (row_base r1 (by omega)) fun k hk=>?_
     simp [Value.ownBlock] at hk;subst hk
     rw [hu3.block _ (by rw [World.size_alloc];omega) (by simp),heap_alloc_old _ _ r4]
    ·have e:K.vars=K.order.length:=hol.symm
     have:=row_base ho3 (show w.heap.size<=_ by rw [World.size_alloc];omega)
     rw [hol] at this;exact this
   rw [hol];clear ho3 hu3 UA HB2 hgl hgl2;generalize w2.heap.size=wb at HBG;go_wp2_with fail
   go_loopg [40] K.vars (fun g s40 wr=>∃ i:Nat,K.vars-i=g/\i<=K.vars/\s40=.int .i64 i/\BgR w wb b gl go cap K i wr)
   case atStart=>exact ⟨0,by omega,by omega,rfl,HBG.out⟩
   case round =>
    obtain ⟨j,rfl,hj,rfl,hE⟩:=hrel
    by_cases hjt:j<K.vars
    ·obtain ⟨v,hv⟩ : ∃ v,K.order.getD j 0=v:=⟨_,rfl⟩
     have hpm:=HK.out.ok.ord.pm;have hvl:=(hpm.oo j hjt).1;rw [hv] at hvl
     have cv:wr.cell? ⟨go,j,none⟩=some (.int .i64 v):=row_cell hE.ord (by
      have e:K.order[j]?=some v:=by
       rw [<- hv,List.getD_eq_getElem?_getD,List.getElem?_eq_getElem (by omega)];rfl
      simp [flatN,e])
     have c1:wr.cell? ⟨wb,1,none⟩=some (.slice (some ⟨gl,0,none⟩) K.vars K.vars):=cell_at hE.blk rfl;have cg:wr.cell? ⟨gl,v,none⟩=some (.int .i64 ((if K.lev v<j then K.lev v else 0:Nat):Int)):=row_cell hE.row (by simp [flatN,lvI_get K j v hvl]);have fg:=row_frozen hE.row v
     have hjl:(j:Int)<(K.vars:Int):=by omega
     have hvi:(v:Int)<(K.vars:Int):=by omega
     have HE:=Lib.hid (hE.step hpm hjt hv);clear hE hpm hv;go_wp2_with fail
     go_roundg (K.vars-(j+1))
     case measure=>omega
     case rel=>exact ⟨j+1,rfl,by omega,by simp,HE.out⟩
    ·obtain rfl:j=K.vars:=by omega
     have hjl:¬ ((K.vars:Int)<(K.vars:Int)):=by omega
     have HE:=Lib.hid hE;clear hE;go_wp2_with fail;go_ret2;exact ⟨wb,rfl,_,HE.out.done HK.out⟩
theorem bit_spec (a:Bool) (w:World):Calls Tryz.prog 166 #[.bool a] w fun e w'=>e=.returned (.int .u8 (if a then 1 else 0:Nat))/\w'=w:=by
 cases a with
 | true =>
  go_enter Tryz.func166,Tryz.ntmps166
  go_wp2_with fail;go_ret;exact ⟨rfl,rfl⟩
 | false =>
  go_enter Tryz.func166,Tryz.ntmps166
  go_wp2_with fail;go_ret;exact ⟨rfl,rfl⟩
def opB (op:Nat) (a b:Bool):Bool:=op.testBit (2*(if a then 1 else 0)+(if b then 1 else 0))
theorem op_key (op:Nat) (h:op<=15):(bits BinOp.and IntKind.u8 (op:Int) 1 == 1)=opB op false false/\(bits BinOp.and IntKind.u8 ((op:Int)/2) 1 == 1)=opB op false true/\(bits BinOp.and IntKind.u8 ((op:Int)/4) 1 == 1)=opB op true false/\(bits BinOp.and IntKind.u8 ((op:Int)/8) 1 == 1)=opB op true true:=by
 have key:∀ op∈List.range 16,((bits BinOp.and IntKind.u8 (op:Int) 1 == 1)=opB op false false/\(bits BinOp.and IntKind.u8 ((op:Int)/2) 1 == 1)=opB op false true/\(bits BinOp.and IntKind.u8 ((op:Int)/4) 1 == 1)=opB op true false/\(bits BinOp.and IntKind.u8 ((op:Int)/8) 1 == 1)=opB op true true):=by decide
 exact key op (List.mem_range.2 (by omega))
theorem leafB_spec (op cb:Nat) (a b c:Bool) (w:World) (ho:op<=15) (hc:w.cell? ⟨cb,0,none⟩=some (.int .u8 op)) :
  Calls Tryz.prog 165 #[.bool a,.bool b,.bool c,.pointer (some ⟨cb,0,none⟩)] w fun e w'=>e=.returned (.bool (opB op a b))/\Upd [] w w':=by
 have hb:=World.block_lt_of_cell? _ _ hc;have HK:=Lib.hid (op_key op ho)
 cases a <;> cases b
 ·go_enter Tryz.func165,Tryz.ntmps165
  go_wp2_with fail
  go_quiet ((go_at_call 166;exact Calls.quiet_of_same (bit_spec _ _)))
  go_wp2_with fail;go_ret;exact ⟨by rw [<- HK.out.1];rfl,(Upd.refl _ _).drewN _⟩
 ·go_enter Tryz.func165,Tryz.ntmps165
  go_wp2_with fail
  go_quiet ((go_at_call 166;exact Calls.quiet_of_same (bit_spec _ _)))
  go_wp2_with fail;go_ret;exact ⟨by rw [<- HK.out.2.1];rfl,(Upd.refl _ _).drewN _⟩
 ·go_enter Tryz.func165,Tryz.ntmps165
  go_wp2_with fail
  go_quiet ((go_at_call 166;exact Calls.quiet_of_same (bit_spec _ _)))
  go_wp2_with fail;go_ret;exact ⟨by rw [<- HK.out.2.2.1];rfl,(Upd.refl _ _).drewN _⟩
 ·go_enter Tryz.func165,Tryz.ntmps165
  go_wp2_with fail
  go_quiet ((go_at_call 166;exact Calls.quiet_of_same (bit_spec _ _)))
  go_wp2_with fail;go_ret;exact ⟨by rw [<- HK.out.2.2.2];rfl,(Upd.refl _ _).drewN _⟩
theorem enters_B:Enters 165:=fun args w=>by simp [go_sem]
end Go.Proofs.YtfkopmhpppeheaaGreat
