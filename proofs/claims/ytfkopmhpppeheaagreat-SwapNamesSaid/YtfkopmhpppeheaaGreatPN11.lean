import Derived.Test.YtfkopmhpppeheaaGreatPN10
import Derived.Deep.QuietTactic
set_option maxRecDepth 100000
set_option maxHeartbeats 3200000
namespace Go.Proofs.YtfkopmhpppeheaaGreat
open Go.RowKit Go.Maps Go.ChangeMaps Go.WideShapes
theorem Qa:Enters 212:=fun args w=>by
 simp [go_sem]
theorem KV.TC (K:KV) (a x:Nat->Bool):K.mix 0 a x=x:=by funext v;simp [KV.mix]
theorem Qb {W:World} {mb:Nat} (h:W.heap[mb]?=some (.map #[] 0)):W.ownsMap Tryz.prog 228 (plainElem (H:=Unit) Tryz.prog 77) mb 0 (.map []):=by
 obtain ⟨es,clock,q1,q2,q3,q4⟩:=World.ownsMap_made W Tryz.prog 228 (plainElem (H:=Unit) Tryz.prog 77);rw [heap_alloc_new] at q1;cases q1;exact ⟨#[],0,h,q2,Nat.zero_le _,rfl⟩
structure abD (w:World) (wb f g h fl:Nat) (caps:Array Value) (W:World):Prop where
 b0:W.heap[w.heap.size]?=some (.cells #[.pointer (some ⟨wb,0,none⟩)] 223 (0,0))
 b1:W.heap[w.heap.size+1]?=some (.cells #[.int .u32 f,.int .u32 g,.int .u32 h] 228 (0,0))
 b2:W.heap[w.heap.size+1+1]?=some (.cells #[.func (Fn.func fl) #[] caps] 229 (0,0))
 b3:W.heap[w.heap.size+1+1+1]?=some (.cells #[.int .u32 0] 77 (0,0))
 b4:W.heap[w.heap.size+1+1+1+1]?=some (.cells #[.int .i64 0] 47 (0,0))
 b5:W.heap[w.heap.size+1+1+1+1+1]?=some (.map #[] 0)
 b6:W.heap[w.heap.size+1+1+1+1+1+1]?=some (.cells #[.map (some (w.heap.size+1+1+1+1+1))] 280 (0,0))
 b7:W.heap[w.heap.size+1+1+1+1+1+1+1]?=some (.cells #[(.func (Fn.func 212) #[] #[.pointer (some ⟨w.heap.size+1+1+1+1+1+1,0,none⟩),.pointer (some ⟨w.heap.size,0,none⟩),.pointer (some ⟨w.heap.size+1+1,0,none⟩),.pointer (some ⟨w.heap.size+1+1+1+1+1+1+1,0,none⟩)])] 281 (0,0))
 up:af [] w W
theorem TD (w:World) (wb f g h fl:Nat) (caps:Array Value):((((((((((((((w.alloc (.cells #[.pointer (some ⟨wb,0,none⟩)] 223 (0,0)))).alloc (.cells #[.int .u32 f,.int .u32 g,.int .u32 h] 228 (0,0)))).alloc (.cells #[.func (Fn.func fl) #[] caps] 229 (0,0)))).alloc (.cells #[.int .u32 0] 77 (0,0)))).alloc (.cells #[.int .i64 0] 47 (0,0)))).alloc (.map #[] 0))).alloc (.cells #[.map (some (w.heap.size+1+1+1+1+1))] 280 (0,0))).alloc (.cells #[.nilFunc] 281 (0,0))).heap[w.heap.size+1+1+1+1+1+1+1]?=some (.cells #[.nilFunc] 281 (0,0))/\abD w wb f g h fl caps (((((((((((((((w.alloc (.cells #[.pointer (some ⟨wb,0,none⟩)] 223 (0,0)))).alloc (.cells #[.int .u32 f,.int .u32 g,.int .u32 h] 228 (0,0)))).alloc (.cells #[.func (Fn.func fl) #[] caps] 229 (0,0)))).alloc (.cells #[.int .u32 0] 77 (0,0)))).alloc (.cells #[.int .i64 0] 47 (0,0)))).alloc (.map #[] 0))).alloc (.cells #[.map (some (w.heap.size+1+1+1+1+1))] 280 (0,0)))).alloc (.cells #[(.func (Fn.func 212) #[] #[.pointer (some ⟨w.heap.size+1+1+1+1+1+1,0,none⟩),.pointer (some ⟨w.heap.size,0,none⟩),.pointer (some ⟨w.heap.size+1+1,0,none⟩),.pointer (some ⟨w.heap.size+1+1+1+1+1+1+1,0,none⟩)])] 281 (0,0))):=by
 have z0:w.heap.size=w.heap.size:=by first | rfl | simp only [World.size_alloc]
 have n0:(w.alloc (.cells #[.pointer (some ⟨wb,0,none⟩)] 223 (0,0))).heap[w.heap.size]?=some (.cells #[.pointer (some ⟨wb,0,none⟩)] 223 (0,0)):=by
  have e:=heap_alloc_new w (.cells #[.pointer (some ⟨wb,0,none⟩)] 223 (0,0))
  rw [z0] at e;exact e
 have aeB:(((w.alloc (.cells #[.pointer (some ⟨wb,0,none⟩)] 223 (0,0)))).alloc (.cells #[.int .u32 f,.int .u32 g,.int .u32 h] 228 (0,0))).heap[w.heap.size]?=some (.cells #[.pointer (some ⟨wb,0,none⟩)] 223 (0,0)):=(heap_alloc_old _ _ (ah n0)).trans n0;have aeC:(((((w.alloc (.cells #[.pointer (some ⟨wb,0,none⟩)] 223 (0,0)))).alloc (.cells #[.int .u32 f,.int .u32 g,.int .u32 h] 228 (0,0)))).alloc (.cells #[.func (Fn.func fl) #[] caps] 229 (0,0))).heap[w.heap.size]?=some (.cells #[.pointer (some ⟨wb,0,none⟩)] 223 (0,0)):=(heap_alloc_old _ _ (ah aeB)).trans aeB;have aeD:(((((((w.alloc (.cells #[.pointer (some ⟨wb,0,none⟩)] 223 (0,0)))).alloc (.cells #[.int .u32 f,.int .u32 g,.int .u32 h] 228 (0,0)))).alloc (.cells #[.func (Fn.func fl) #[] caps] 229 (0,0)))).alloc (.cells #[.int .u32 0] 77 (0,0))).heap[w.heap.size]?=some (.cells #[.pointer (some ⟨wb,0,none⟩)] 223 (0,0)):=(heap_alloc_old _ _ (ah aeC)).trans aeC;have aeE:(((((((((w.alloc (.cells #[.pointer (some ⟨wb,0,none⟩)] 223 (0,0)))).alloc (.cells #[.int .u32 f,.int .u32 g,.int .u32 h] 228 (0,0)))).alloc (.cells #[.func (Fn.func fl) #[] caps] 229 (0,0)))).alloc (.cells #[.int .u32 0] 77 (0,0)))).alloc (.cells #[.int .i64 0] 47 (0,0))).heap[w.heap.size]?=some (.cells #[.pointer (some ⟨wb,0,none⟩)] 223 (0,0)):=(heap_alloc_old _ _ (ah aeD)).trans aeD;have aeF:(((((((((((w.alloc (.cells #[.pointer (some ⟨wb,0,none⟩)] 223 (0,0)))).alloc (.cells #[.int .u32 f,.int .u32 g,.int .u32 h] 228 (0,0)))).alloc (.cells #[.func (Fn.func fl) #[] caps] 229 (0,0)))).alloc (.cells #[.int .u32 0] 77 (0,0)))).alloc (.cells #[.int .i64 0] 47 (0,0)))).alloc (.map #[] 0)).heap[w.heap.size]?=some (.cells #[.pointer (some ⟨wb,0,none⟩)] 223 (0,0)):=(heap_alloc_old _ _ (ah aeE)).trans aeE;have aeG:(((((((((((((w.alloc (.cells #[.pointer (some ⟨wb,0,none⟩)] 223 (0,0)))).alloc (.cells #[.int .u32 f,.int .u32 g,.int .u32 h] 228 (0,0)))).alloc (.cells #[.func (Fn.func fl) #[] caps] 229 (0,0)))).alloc (.cells #[.int .u32 0] 77 (0,0)))).alloc (.cells #[.int .i64 0] 47 (0,0)))).alloc (.map #[] 0))).alloc (.cells #[.map (some (w.heap.size+1+1+1+1+1))] 280 (0,0))).heap[w.heap.size]?=some (.cells #[.pointer (some ⟨wb,0,none⟩)] 223 (0,0)):=(heap_alloc_old _ _ (ah aeF)).trans aeF;have aju:(((((((((((((((w.alloc (.cells #[.pointer (some ⟨wb,0,none⟩)] 223 (0,0)))).alloc (.cells #[.int .u32 f,.int .u32 g,.int .u32 h] 228 (0,0)))).alloc (.cells #[.func (Fn.func fl) #[] caps] 229 (0,0)))).alloc (.cells #[.int .u32 0] 77 (0,0)))).alloc (.cells #[.int .i64 0] 47 (0,0)))).alloc (.map #[] 0))).alloc (.cells #[.map (some (w.heap.size+1+1+1+1+1))] 280 (0,0)))).alloc (.cells #[(.func (Fn.func 212) #[] #[.pointer (some ⟨w.heap.size+1+1+1+1+1+1,0,none⟩),.pointer (some ⟨w.heap.size,0,none⟩),.pointer (some ⟨w.heap.size+1+1,0,none⟩),.pointer (some ⟨w.heap.size+1+1+1+1+1+1+1,0,none⟩)])] 281 (0,0))).heap[w.heap.size]?=some (.cells #[.pointer (some ⟨wb,0,none⟩)] 223 (0,0)):=(heap_alloc_old _ _ (ah aeG)).trans aeG
 have z1:(w.alloc (.cells #[.pointer (some ⟨wb,0,none⟩)] 223 (0,0))).heap.size=w.heap.size+1:=by first | rfl | simp only [World.size_alloc]
 have n1:(((w.alloc (.cells #[.pointer (some ⟨wb,0,none⟩)] 223 (0,0)))).alloc (.cells #[.int .u32 f,.int .u32 g,.int .u32 h] 228 (0,0))).heap[w.heap.size+1]?=some (.cells #[.int .u32 f,.int .u32 g,.int .u32 h] 228 (0,0)):=by
  have e:=heap_alloc_new (w.alloc (.cells #[.pointer (some ⟨wb,0,none⟩)] 223 (0,0))) (.cells #[.int .u32 f,.int .u32 g,.int .u32 h] 228 (0,0))
  rw [z1] at e;exact e
 have aeH:(((((w.alloc (.cells #[.pointer (some ⟨wb,0,none⟩)] 223 (0,0)))).alloc (.cells #[.int .u32 f,.int .u32 g,.int .u32 h] 228 (0,0)))).alloc (.cells #[.func (Fn.func fl) #[] caps] 229 (0,0))).heap[w.heap.size+1]?=some (.cells #[.int .u32 f,.int .u32 g,.int .u32 h] 228 (0,0)):=(heap_alloc_old _ _ (ah n1)).trans n1;have aeI:(((((((w.alloc (.cells #[.pointer (some ⟨wb,0,none⟩)] 223 (0,0)))).alloc (.cells #[.int .u32 f,.int .u32 g,.int .u32 h] 228 (0,0)))).alloc (.cells #[.func (Fn.func fl) #[] caps] 229 (0,0)))).alloc (.cells #[.int .u32 0] 77 (0,0))).heap[w.heap.size+1]?=some (.cells #[.int .u32 f,.int .u32 g,.int .u32 h] 228 (0,0)):=(heap_alloc_old _ _ (ah aeH)).trans aeH;have aeJ:(((((((((w.alloc (.cells #[.pointer (some ⟨wb,0,none⟩)] 223 (0,0)))).alloc (.cells #[.int .u32 f,.int .u32 g,.int .u32 h] 228 (0,0)))).alloc (.cells #[.func (Fn.func fl) #[] caps] 229 (0,0)))).alloc (.cells #[.int .u32 0] 77 (0,0)))).alloc (.cells #[.int .i64 0] 47 (0,0))).heap[w.heap.size+1]?=some (.cells #[.int .u32 f,.int .u32 g,.int .u32 h] 228 (0,0)):=(heap_alloc_old _ _ (ah aeI)).trans aeI;have aeK:(((((((((((w.alloc (.cells #[.pointer (some ⟨wb,0,none⟩)] 223 (0,0)))).alloc (.cells #[.int .u32 f,.int .u32 g,.int .u32 h] 228 (0,0)))).alloc (.cells #[.func (Fn.func fl) #[] caps] 229 (0,0)))).alloc (.cells #[.int .u32 0] 77 (0,0)))).alloc (.cells #[.int .i64 0] 47 (0,0)))).alloc (.map #[] 0)).heap[w.heap.size+1]?=some (.cells #[.int .u32 f,.int .u32 g,.int .u32 h] 228 (0,0)):=(heap_alloc_old _ _ (ah aeJ)).trans aeJ;have aeL:(((((((((((((w.alloc (.cells #[.pointer (some ⟨wb,0,none⟩)] 223 (0,0)))).alloc (.cells #[.int .u32 f,.int .u32 g,.int .u32 h] 228 (0,0)))).alloc (.cells #[.func (Fn.func fl) #[] caps] 229 (0,0)))).alloc (.cells #[.int .u32 0] 77 (0,0)))).alloc (.cells #[.int .i64 0] 47 (0,0)))).alloc (.map #[] 0))).alloc (.cells #[.map (some (w.heap.size+1+1+1+1+1))] 280 (0,0))).heap[w.heap.size+1]?=some (.cells #[.int .u32 f,.int .u32 g,.int .u32 h] 228 (0,0)):=(heap_alloc_old _ _ (ah aeK)).trans aeK;have ajv:(((((((((((((((w.alloc (.cells #[.pointer (some ⟨wb,0,none⟩)] 223 (0,0)))).alloc (.cells #[.int .u32 f,.int .u32 g,.int .u32 h] 228 (0,0)))).alloc (.cells #[.func (Fn.func fl) #[] caps] 229 (0,0)))).alloc (.cells #[.int .u32 0] 77 (0,0)))).alloc (.cells #[.int .i64 0] 47 (0,0)))).alloc (.map #[] 0))).alloc (.cells #[.map (some (w.heap.size+1+1+1+1+1))] 280 (0,0)))).alloc (.cells #[(.func (Fn.func 212) #[] #[.pointer (some ⟨w.heap.size+1+1+1+1+1+1,0,none⟩),.pointer (some ⟨w.heap.size,0,none⟩),.pointer (some ⟨w.heap.size+1+1,0,none⟩),.pointer (some ⟨w.heap.size+1+1+1+1+1+1+1,0,none⟩)])] 281 (0,0))).heap[w.heap.size+1]?=some (.cells #[.int .u32 f,.int .u32 g,.int .u32 h] 228 (0,0)):=(heap_alloc_old _ _ (ah aeL)).trans aeL
 have z2:(((w.alloc (.cells #[.pointer (some ⟨wb,0,none⟩)] 223 (0,0)))).alloc (.cells #[.int .u32 f,.int .u32 g,.int .u32 h] 228 (0,0))).heap.size=w.heap.size+1+1:=by first | rfl | simp only [World.size_alloc]
 have n2:(((((w.alloc (.cells #[.pointer (some ⟨wb,0,none⟩)] 223 (0,0)))).alloc (.cells #[.int .u32 f,.int .u32 g,.int .u32 h] 228 (0,0)))).alloc (.cells #[.func (Fn.func fl) #[] caps] 229 (0,0))).heap[w.heap.size+1+1]?=some (.cells #[.func (Fn.func fl) #[] caps] 229 (0,0)):=by
  have e:=heap_alloc_new (((w.alloc (.cells #[.pointer (some ⟨wb,0,none⟩)] 223 (0,0)))).alloc (.cells #[.int .u32 f,.int .u32 g,.int .u32 h] 228 (0,0))) (.cells #[.func (Fn.func fl) #[] caps] 229 (0,0))
  rw [z2] at e;exact e
 have aeM:(((((((w.alloc (.cells #[.pointer (some ⟨wb,0,none⟩)] 223 (0,0)))).alloc (.cells #[.int .u32 f,.int .u32 g,.int .u32 h] 228 (0,0)))).alloc (.cells #[.func (Fn.func fl) #[] caps] 229 (0,0)))).alloc (.cells #[.int .u32 0] 77 (0,0))).heap[w.heap.size+1+1]?=some (.cells #[.func (Fn.func fl) #[] caps] 229 (0,0)):=(heap_alloc_old _ _ (ah n2)).trans n2;have aeN:(((((((((w.alloc (.cells #[.pointer (some ⟨wb,0,none⟩)] 223 (0,0)))).alloc (.cells #[.int .u32 f,.int .u32 g,.int .u32 h] 228 (0,0)))).alloc (.cells #[.func (Fn.func fl) #[] caps] 229 (0,0)))).alloc (.cells #[.int .u32 0] 77 (0,0)))).alloc (.cells #[.int .i64 0] 47 (0,0))).heap[w.heap.size+1+1]?=some (.cells #[.func (Fn.func fl) #[] caps] 229 (0,0)):=(heap_alloc_old _ _ (ah aeM)).trans aeM;have aeO:(((((((((((w.alloc (.cells #[.pointer (some ⟨wb,0,none⟩)] 223 (0,0)))).alloc (.cells #[.int .u32 f,.int .u32 g,.int .u32 h] 228 (0,0)))).alloc (.cells #[.func (Fn.func fl) #[] caps] 229 (0,0)))).alloc (.cells #[.int .u32 0] 77 (0,0)))).alloc (.cells #[.int .i64 0] 47 (0,0)))).alloc (.map #[] 0)).heap[w.heap.size+1+1]?=some (.cells #[.func (Fn.func fl) #[] caps] 229 (0,0)):=(heap_alloc_old _ _ (ah aeN)).trans aeN;have aeP:(((((((((((((w.alloc (.cells #[.pointer (some ⟨wb,0,none⟩)] 223 (0,0)))).alloc (.cells #[.int .u32 f,.int .u32 g,.int .u32 h] 228 (0,0)))).alloc (.cells #[.func (Fn.func fl) #[] caps] 229 (0,0)))).alloc (.cells #[.int .u32 0] 77 (0,0)))).alloc (.cells #[.int .i64 0] 47 (0,0)))).alloc (.map #[] 0))).alloc (.cells #[.map (some (w.heap.size+1+1+1+1+1))] 280 (0,0))).heap[w.heap.size+1+1]?=some (.cells #[.func (Fn.func fl) #[] caps] 229 (0,0)):=(heap_alloc_old _ _ (ah aeO)).trans aeO;have ajw:(((((((((((((((w.alloc (.cells #[.pointer (some ⟨wb,0,none⟩)] 223 (0,0)))).alloc (.cells #[.int .u32 f,.int .u32 g,.int .u32 h] 228 (0,0)))).alloc (.cells #[.func (Fn.func fl) #[] caps] 229 (0,0)))).alloc (.cells #[.int .u32 0] 77 (0,0)))).alloc (.cells #[.int .i64 0] 47 (0,0)))).alloc (.map #[] 0))).alloc (.cells #[.map (some (w.heap.size+1+1+1+1+1))] 280 (0,0)))).alloc (.cells #[(.func (Fn.func 212) #[] #[.pointer (some ⟨w.heap.size+1+1+1+1+1+1,0,none⟩),.pointer (some ⟨w.heap.size,0,none⟩),.pointer (some ⟨w.heap.size+1+1,0,none⟩),.pointer (some ⟨w.heap.size+1+1+1+1+1+1+1,0,none⟩)])] 281 (0,0))).heap[w.heap.size+1+1]?=some (.cells #[.func (Fn.func fl) #[] caps] 229 (0,0)):=(heap_alloc_old _ _ (ah aeP)).trans aeP
 have z3:(((((w.alloc (.cells #[.pointer (some ⟨wb,0,none⟩)] 223 (0,0)))).alloc (.cells #[.int .u32 f,.int .u32 g,.int .u32 h] 228 (0,0)))).alloc (.cells #[.func (Fn.func fl) #[] caps] 229 (0,0))).heap.size=w.heap.size+1+1+1:=by first | rfl | simp only [World.size_alloc]
 have n3:(((((((w.alloc (.cells #[.pointer (some ⟨wb,0,none⟩)] 223 (0,0)))).alloc (.cells #[.int .u32 f,.int .u32 g,.int .u32 h] 228 (0,0)))).alloc (.cells #[.func (Fn.func fl) #[] caps] 229 (0,0)))).alloc (.cells #[.int .u32 0] 77 (0,0))).heap[w.heap.size+1+1+1]?=some (.cells #[.int .u32 0] 77 (0,0)):=by
  have e:=heap_alloc_new (((((w.alloc (.cells #[.pointer (some ⟨wb,0,none⟩)] 223 (0,0)))).alloc (.cells #[.int .u32 f,.int .u32 g,.int .u32 h] 228 (0,0)))).alloc (.cells #[.func (Fn.func fl) #[] caps] 229 (0,0))) (.cells #[.int .u32 0] 77 (0,0))
  rw [z3] at e;exact e
 have aeQ:(((((((((w.alloc (.cells #[.pointer (some ⟨wb,0,none⟩)] 223 (0,0)))).alloc (.cells #[.int .u32 f,.int .u32 g,.int .u32 h] 228 (0,0)))).alloc (.cells #[.func (Fn.func fl) #[] caps] 229 (0,0)))).alloc (.cells #[.int .u32 0] 77 (0,0)))).alloc (.cells #[.int .i64 0] 47 (0,0))).heap[w.heap.size+1+1+1]?=some (.cells #[.int .u32 0] 77 (0,0)):=(heap_alloc_old _ _ (ah n3)).trans n3;have aeR:(((((((((((w.alloc (.cells #[.pointer (some ⟨wb,0,none⟩)] 223 (0,0)))).alloc (.cells #[.int .u32 f,.int .u32 g,.int .u32 h] 228 (0,0)))).alloc (.cells #[.func (Fn.func fl) #[] caps] 229 (0,0)))).alloc (.cells #[.int .u32 0] 77 (0,0)))).alloc (.cells #[.int .i64 0] 47 (0,0)))).alloc (.map #[] 0)).heap[w.heap.size+1+1+1]?=some (.cells #[.int .u32 0] 77 (0,0)):=(heap_alloc_old _ _ (ah aeQ)).trans aeQ;have aeS:(((((((((((((w.alloc (.cells #[.pointer (some ⟨wb,0,none⟩)] 223 (0,0)))).alloc (.cells #[.int .u32 f,.int .u32 g,.int .u32 h] 228 (0,0)))).alloc (.cells #[.func (Fn.func fl) #[] caps] 229 (0,0)))).alloc (.cells #[.int .u32 0] 77 (0,0)))).alloc (.cells #[.int .i64 0] 47 (0,0)))).alloc (.map #[] 0))).alloc (.cells #[.map (some (w.heap.size+1+1+1+1+1))] 280 (0,0))).heap[w.heap.size+1+1+1]?=some (.cells #[.int .u32 0] 77 (0,0)):=(heap_alloc_old _ _ (ah aeR)).trans aeR;have ajx:(((((((((((((((w.alloc (.cells #[.pointer (some ⟨wb,0,none⟩)] 223 (0,0)))).alloc (.cells #[.int .u32 f,.int .u32 g,.int .u32 h] 228 (0,0)))).alloc (.cells #[.func (Fn.func fl) #[] caps] 229 (0,0)))).alloc (.cells #[.int .u32 0] 77 (0,0)))).alloc (.cells #[.int .i64 0] 47 (0,0)))).alloc (.map #[] 0))).alloc (.cells #[.map (some (w.heap.size+1+1+1+1+1))] 280 (0,0)))).alloc (.cells #[(.func (Fn.func 212) #[] #[.pointer (some ⟨w.heap.size+1+1+1+1+1+1,0,none⟩),.pointer (some ⟨w.heap.size,0,none⟩),.pointer (some ⟨w.heap.size+1+1,0,none⟩),.pointer (some ⟨w.heap.size+1+1+1+1+1+1+1,0,none⟩)])] 281 (0,0))).heap[w.heap.size+1+1+1]?=some (.cells #[.int .u32 0] 77 (0,0)):=(heap_alloc_old _ _ (ah aeS)).trans aeS
 have z4:(((((((w.alloc (.cells #[.pointer (some ⟨wb,0,none⟩)] 223 (0,0)))).alloc (.cells #[.int .u32 f,.int .u32 g,.int .u32 h] 228 (0,0)))).alloc (.cells #[.func (Fn.func fl) #[] caps] 229 (0,0)))).alloc (.cells #[.int .u32 0] 77 (0,0))).heap.size=w.heap.size+1+1+1+1:=by first | rfl | simp only [World.size_alloc]
 have n4:(((((((((w.alloc (.cells #[.pointer (some ⟨wb,0,none⟩)] 223 (0,0)))).alloc (.cells #[.int .u32 f,.int .u32 g,.int .u32 h] 228 (0,0)))).alloc (.cells #[.func (Fn.func fl) #[] caps] 229 (0,0)))).alloc (.cells #[.int .u32 0] 77 (0,0)))).alloc (.cells #[.int .i64 0] 47 (0,0))).heap[w.heap.size+1+1+1+1]?=some (.cells #[.int .i64 0] 47 (0,0)):=by
  have e:=heap_alloc_new (((((((w.alloc (.cells #[.pointer (some ⟨wb,0,none⟩)] 223 (0,0)))).alloc (.cells #[.int .u32 f,.int .u32 g,.int .u32 h] 228 (0,0)))).alloc (.cells #[.func (Fn.func fl) #[] caps] 229 (0,0)))).alloc (.cells #[.int .u32 0] 77 (0,0))) (.cells #[.int .i64 0] 47 (0,0))
  rw [z4] at e;exact e
 have aeT:(((((((((((w.alloc (.cells #[.pointer (some ⟨wb,0,none⟩)] 223 (0,0)))).alloc (.cells #[.int .u32 f,.int .u32 g,.int .u32 h] 228 (0,0)))).alloc (.cells #[.func (Fn.func fl) #[] caps] 229 (0,0)))).alloc (.cells #[.int .u32 0] 77 (0,0)))).alloc (.cells #[.int .i64 0] 47 (0,0)))).alloc (.map #[] 0)).heap[w.heap.size+1+1+1+1]?=some (.cells #[.int .i64 0] 47 (0,0)):=(heap_alloc_old _ _ (ah n4)).trans n4;have aeU:(((((((((((((w.alloc (.cells #[.pointer (some ⟨wb,0,none⟩)] 223 (0,0)))).alloc (.cells #[.int .u32 f,.int .u32 g,.int .u32 h] 228 (0,0)))).alloc (.cells #[.func (Fn.func fl) #[] caps] 229 (0,0)))).alloc (.cells #[.int .u32 0] 77 (0,0)))).alloc (.cells #[.int .i64 0] 47 (0,0)))).alloc (.map #[] 0))).alloc (.cells #[.map (some (w.heap.size+1+1+1+1+1))] 280 (0,0))).heap[w.heap.size+1+1+1+1]?=some (.cells #[.int .i64 0] 47 (0,0)):=(heap_alloc_old _ _ (ah aeT)).trans aeT;have ajy:(((((((((((((((w.alloc (.cells #[.pointer (some ⟨wb,0,none⟩)] 223 (0,0)))).alloc (.cells #[.int .u32 f,.int .u32 g,.int .u32 h] 228 (0,0)))).alloc (.cells #[.func (Fn.func fl) #[] caps] 229 (0,0)))).alloc (.cells #[.int .u32 0] 77 (0,0)))).alloc (.cells #[.int .i64 0] 47 (0,0)))).alloc (.map #[] 0))).alloc (.cells #[.map (some (w.heap.size+1+1+1+1+1))] 280 (0,0)))).alloc (.cells #[(.func (Fn.func 212) #[] #[.pointer (some ⟨w.heap.size+1+1+1+1+1+1,0,none⟩),.pointer (some ⟨w.heap.size,0,none⟩),.pointer (some ⟨w.heap.size+1+1,0,none⟩),.pointer (some ⟨w.heap.size+1+1+1+1+1+1+1,0,none⟩)])] 281 (0,0))).heap[w.heap.size+1+1+1+1]?=some (.cells #[.int .i64 0] 47 (0,0)):=(heap_alloc_old _ _ (ah aeU)).trans aeU
 have z5:(((((((((w.alloc (.cells #[.pointer (some ⟨wb,0,none⟩)] 223 (0,0)))).alloc (.cells #[.int .u32 f,.int .u32 g,.int .u32 h] 228 (0,0)))).alloc (.cells #[.func (Fn.func fl) #[] caps] 229 (0,0)))).alloc (.cells #[.int .u32 0] 77 (0,0)))).alloc (.cells #[.int .i64 0] 47 (0,0))).heap.size=w.heap.size+1+1+1+1+1:=by first | rfl | simp only [World.size_alloc]
 have n5:(((((((((((w.alloc (.cells #[.pointer (some ⟨wb,0,none⟩)] 223 (0,0)))).alloc (.cells #[.int .u32 f,.int .u32 g,.int .u32 h] 228 (0,0)))).alloc (.cells #[.func (Fn.func fl) #[] caps] 229 (0,0)))).alloc (.cells #[.int .u32 0] 77 (0,0)))).alloc (.cells #[.int .i64 0] 47 (0,0)))).alloc (.map #[] 0)).heap[w.heap.size+1+1+1+1+1]?=some (.map #[] 0):=by
  have e:=heap_alloc_new (((((((((w.alloc (.cells #[.pointer (some ⟨wb,0,none⟩)] 223 (0,0)))).alloc (.cells #[.int .u32 f,.int .u32 g,.int .u32 h] 228 (0,0)))).alloc (.cells #[.func (Fn.func fl) #[] caps] 229 (0,0)))).alloc (.cells #[.int .u32 0] 77 (0,0)))).alloc (.cells #[.int .i64 0] 47 (0,0))) (.map #[] 0)
  rw [z5] at e;exact e
 have aeV:(((((((((((((w.alloc (.cells #[.pointer (some ⟨wb,0,none⟩)] 223 (0,0)))).alloc (.cells #[.int .u32 f,.int .u32 g,.int .u32 h] 228 (0,0)))).alloc (.cells #[.func (Fn.func fl) #[] caps] 229 (0,0)))).alloc (.cells #[.int .u32 0] 77 (0,0)))).alloc (.cells #[.int .i64 0] 47 (0,0)))).alloc (.map #[] 0))).alloc (.cells #[.map (some (w.heap.size+1+1+1+1+1))] 280 (0,0))).heap[w.heap.size+1+1+1+1+1]?=some (.map #[] 0):=(heap_alloc_old _ _ (ah n5)).trans n5;have ajz:(((((((((((((((w.alloc (.cells #[.pointer (some ⟨wb,0,none⟩)] 223 (0,0)))).alloc (.cells #[.int .u32 f,.int .u32 g,.int .u32 h] 228 (0,0)))).alloc (.cells #[.func (Fn.func fl) #[] caps] 229 (0,0)))).alloc (.cells #[.int .u32 0] 77 (0,0)))).alloc (.cells #[.int .i64 0] 47 (0,0)))).alloc (.map #[] 0))).alloc (.cells #[.map (some (w.heap.size+1+1+1+1+1))] 280 (0,0)))).alloc (.cells #[(.func (Fn.func 212) #[] #[.pointer (some ⟨w.heap.size+1+1+1+1+1+1,0,none⟩),.pointer (some ⟨w.heap.size,0,none⟩),.pointer (some ⟨w.heap.size+1+1,0,none⟩),.pointer (some ⟨w.heap.size+1+1+1+1+1+1+1,0,none⟩)])] 281 (0,0))).heap[w.heap.size+1+1+1+1+1]?=some (.map #[] 0):=(heap_alloc_old _ _ (ah aeV)).trans aeV
 have z6:(((((((((((w.alloc (.cells #[.pointer (some ⟨wb,0,none⟩)] 223 (0,0)))).alloc (.cells #[.int .u32 f,.int .u32 g,.int .u32 h] 228 (0,0)))).alloc (.cells #[.func (Fn.func fl) #[] caps] 229 (0,0)))).alloc (.cells #[.int .u32 0] 77 (0,0)))).alloc (.cells #[.int .i64 0] 47 (0,0)))).alloc (.map #[] 0)).heap.size=w.heap.size+1+1+1+1+1+1:=by first | rfl | simp only [World.size_alloc]
 have n6:(((((((((((((w.alloc (.cells #[.pointer (some ⟨wb,0,none⟩)] 223 (0,0)))).alloc (.cells #[.int .u32 f,.int .u32 g,.int .u32 h] 228 (0,0)))).alloc (.cells #[.func (Fn.func fl) #[] caps] 229 (0,0)))).alloc (.cells #[.int .u32 0] 77 (0,0)))).alloc (.cells #[.int .i64 0] 47 (0,0)))).alloc (.map #[] 0))).alloc (.cells #[.map (some (w.heap.size+1+1+1+1+1))] 280 (0,0))).heap[w.heap.size+1+1+1+1+1+1]?=some (.cells #[.map (some (w.heap.size+1+1+1+1+1))] 280 (0,0)):=by
  have e:=heap_alloc_new (((((((((((w.alloc (.cells #[.pointer (some ⟨wb,0,none⟩)] 223 (0,0)))).alloc (.cells #[.int .u32 f,.int .u32 g,.int .u32 h] 228 (0,0)))).alloc (.cells #[.func (Fn.func fl) #[] caps] 229 (0,0)))).alloc (.cells #[.int .u32 0] 77 (0,0)))).alloc (.cells #[.int .i64 0] 47 (0,0)))).alloc (.map #[] 0)) (.cells #[.map (some (w.heap.size+1+1+1+1+1))] 280 (0,0))
  rw [z6] at e;exact e
 have ajA:(((((((((((((((w.alloc (.cells #[.pointer (some ⟨wb,0,none⟩)] 223 (0,0)))).alloc (.cells #[.int .u32 f,.int .u32 g,.int .u32 h] 228 (0,0)))).alloc (.cells #[.func (Fn.func fl) #[] caps] 229 (0,0)))).alloc (.cells #[.int .u32 0] 77 (0,0)))).alloc (.cells #[.int .i64 0] 47 (0,0)))).alloc (.map #[] 0))).alloc (.cells #[.map (some (w.heap.size+1+1+1+1+1))] 280 (0,0)))).alloc (.cells #[(.func (Fn.func 212) #[] #[.pointer (some ⟨w.heap.size+1+1+1+1+1+1,0,none⟩),.pointer (some ⟨w.heap.size,0,none⟩),.pointer (some ⟨w.heap.size+1+1,0,none⟩),.pointer (some ⟨w.heap.size+1+1+1+1+1+1+1,0,none⟩)])] 281 (0,0))).heap[w.heap.size+1+1+1+1+1+1]?=some (.cells #[.map (some (w.heap.size+1+1+1+1+1))] 280 (0,0)):=(heap_alloc_old _ _ (ah n6)).trans n6
 have z7:(((((((((((((w.alloc (.cells #[.pointer (some ⟨wb,0,none⟩)] 223 (0,0)))).alloc (.cells #[.int .u32 f,.int .u32 g,.int .u32 h] 228 (0,0)))).alloc (.cells #[.func (Fn.func fl) #[] caps] 229 (0,0)))).alloc (.cells #[.int .u32 0] 77 (0,0)))).alloc (.cells #[.int .i64 0] 47 (0,0)))).alloc (.map #[] 0))).alloc (.cells #[.map (some (w.heap.size+1+1+1+1+1))] 280 (0,0))).heap.size=w.heap.size+1+1+1+1+1+1+1:=by first | rfl | simp only [World.size_alloc]
 have n7:(((((((((((((((w.alloc (.cells #[.pointer (some ⟨wb,0,none⟩)] 223 (0,0)))).alloc (.cells #[.int .u32 f,.int .u32 g,.int .u32 h] 228 (0,0)))).alloc (.cells #[.func (Fn.func fl) #[] caps] 229 (0,0)))).alloc (.cells #[.int .u32 0] 77 (0,0)))).alloc (.cells #[.int .i64 0] 47 (0,0)))).alloc (.map #[] 0))).alloc (.cells #[.map (some (w.heap.size+1+1+1+1+1))] 280 (0,0)))).alloc (.cells #[(.func (Fn.func 212) #[] #[.pointer (some ⟨w.heap.size+1+1+1+1+1+1,0,none⟩),.pointer (some ⟨w.heap.size,0,none⟩),.pointer (some ⟨w.heap.size+1+1,0,none⟩),.pointer (some ⟨w.heap.size+1+1+1+1+1+1+1,0,none⟩)])] 281 (0,0))).heap[w.heap.size+1+1+1+1+1+1+1]?=some (.cells #[(.func (Fn.func 212) #[] #[.pointer (some ⟨w.heap.size+1+1+1+1+1+1,0,none⟩),.pointer (some ⟨w.heap.size,0,none⟩),.pointer (some ⟨w.heap.size+1+1,0,none⟩),.pointer (some ⟨w.heap.size+1+1+1+1+1+1+1,0,none⟩)])] 281 (0,0)):=by
  have e:=heap_alloc_new (((((((((((((w.alloc (.cells #[.pointer (some ⟨wb,0,none⟩)] 223 (0,0)))).alloc (.cells #[.int .u32 f,.int .u32 g,.int .u32 h] 228 (0,0)))).alloc (.cells #[.func (Fn.func fl) #[] caps] 229 (0,0)))).alloc (.cells #[.int .u32 0] 77 (0,0)))).alloc (.cells #[.int .i64 0] 47 (0,0)))).alloc (.map #[] 0))).alloc (.cells #[.map (some (w.heap.size+1+1+1+1+1))] 280 (0,0))) (.cells #[(.func (Fn.func 212) #[] #[.pointer (some ⟨w.heap.size+1+1+1+1+1+1,0,none⟩),.pointer (some ⟨w.heap.size,0,none⟩),.pointer (some ⟨w.heap.size+1+1,0,none⟩),.pointer (some ⟨w.heap.size+1+1+1+1+1+1+1,0,none⟩)])] 281 (0,0))
  rw [z7] at e;exact e
 refine ⟨?_,aju,ajv,ajw,ajx,ajy,ajz,ajA,n7,((((((((af.refl [] w).alloc _).alloc _).alloc _).alloc _).alloc _).alloc _).alloc _).alloc _⟩;have e:=heap_alloc_new (((((((((((((w.alloc (.cells #[.pointer (some ⟨wb,0,none⟩)] 223 (0,0)))).alloc (.cells #[.int .u32 f,.int .u32 g,.int .u32 h] 228 (0,0)))).alloc (.cells #[.func (Fn.func fl) #[] caps] 229 (0,0)))).alloc (.cells #[.int .u32 0] 77 (0,0)))).alloc (.cells #[.int .i64 0] 47 (0,0)))).alloc (.map #[] 0))).alloc (.cells #[.map (some (w.heap.size+1+1+1+1+1))] 280 (0,0))) (.cells #[.nilFunc] 281 (0,0))
 rw [z7] at e;exact e
theorem abD.runM {w W:World} {wb b fl f g h:Nat} {caps:Array Value} {FL:List Nat} {L:Bool->Bool->Bool->Bool} {K0:KV} {T:List DM} {q:aA} {lvv:Value} (B:abD w wb f g h fl caps W) (hW:WK w wb b K0 T q [] lvv (.slice none 0 0)) (hL:GV w fl caps FL L) (hFL:∀ k,k∈FL->k<w.heap.size)
  (Eg:∀ k,k∈kN wb b q lvv (.slice none 0 0)->k∉FL):qE W wb b (w.heap.size+1+1+1+1+1+1) (w.heap.size) (w.heap.size+1+1) (w.heap.size+1+1+1+1+1+1+1) (w.heap.size+1+1+1+1+1) fl caps FL L K0 T q [] lvv (.slice none 0 0) (.map []):=by
 have aW:=hW.lt;refine ⟨hW.upd B.up (by simp),B.b0,B.b6,B.b2,B.b7,Qb B.b5,fun w' h'=>hL w' fun k hk=>(h' k hk).trans (B.up.block k (hFL k hk) (by simp)),fun k hk=>Nat.lt_of_lt_of_le (hFL k hk) B.up.size,fun k hk=>?_,fun hm=>by have:=aW _ hm;omega⟩
 rcases List.mem_cons.1 hk with rfl | hk
 ·exact ⟨by omega,by omega,by omega,by omega,fun hm=>by have:=hFL _ hm;omega⟩
 ·have:=aW k hk
  exact ⟨by omega,by omega,by omega,by omega,Eg k hk⟩
structure GX (b:Nat) (K0:KV) (q:aA) (L:Bool->Bool->Bool->Bool) (f g h:Nat) (F:List Nat) (w:World) (e:Ending) (w':World):Prop where
 ex:∃ (r:Nat) (code:Int) (K1:KV) (M:List Nat) (K':KV) (T':List DM) (q':aA),e=.returned (.tuple #[.int .u32 (dM M r code).1,.int .i64 (dM M r code).2])/\oI K0 K0 L (K0.jv (K0.iE L f g h)) f g h [] r code K1 M/\K1.Ok/\K1.Uni/\abC K0 K1 M r code K' /\
  bV w' b K' T' q'/\af F w w'/\Sub F w (q'.all b)
theorem Qc (wb b fl f g h:Nat) (caps:Array Value) (FL:List Nat) (L:Bool->Bool->Bool->Bool) (K0:KV) (T:List DM) (q:aA) (lvv:Value) (w:World) (hW:WK w wb b K0 T q [] lvv (.slice none 0 0)) (hA:pM K0 f g h) (hL:GV w fl caps FL L) (hFL:∀ k,k∈FL->k<w.heap.size)
  (Eg:∀ k,k∈kN wb b q lvv (.slice none 0 0)->k∉FL) (Tm:Enters fl) :
  Calls Tryz.prog 153 #[.pointer (some ⟨wb,0,none⟩),.agg #[.int .u32 f,.int .u32 g,.int .u32 h],.func (Fn.func fl) #[] caps] w fun e w' =>
   GX b K0 q L f g h (kN wb b q lvv (.slice none 0 0)) w e w':=by
 have hmf:∀ (fn:Fn) (first cap:Array Value) (w:World),(Instr.makeFunc fn first cap).run Tryz.prog w=.ok (.func fn first cap) w:=fun _ _ _ _=>rfl
 have OI:=@run_makeMap Tryz.prog
 have hsf:∀ (a:Addr) (m:Mode) (fn:Fn) (first cap:Array Value) (w:World),(store a (.func fn first cap) m).run Tryz.prog w=stored Tryz.prog w a (.func fn first cap) m:=fun a m fn first cap w=>run_store Tryz.prog w a _ m rfl
 obtain ⟨Jl,hRB⟩:=TD w wb f g h fl caps;have c7:=ae (j:=0) Jl rfl;have f7:=ax 0 Jl;have hRM:=hRB.runM hW hL hFL Eg;have aW:=hW.lt;have zA:=Lib.hid (OH K0 (K0.iE L f g h) wb b (w.heap.size+1+1+1+1+1+1) (w.heap.size) (w.heap.size+1+1) (w.heap.size+1+1+1+1+1+1+1) (w.heap.size+1+1+1+1+1) fl caps FL L lvv Tm Qa (K0.vars+1) 0 (by omega) f g h K0 T q [] (.slice none 0 0) (.map []) (((((((((((((((w.alloc (.cells #[.pointer (some ⟨wb,0,none⟩)] 223 (0,0)))).alloc (.cells #[.int .u32 f,.int .u32 g,.int .u32 h] 228 (0,0)))).alloc (.cells #[.func (Fn.func fl) #[] caps] 229 (0,0)))).alloc (.cells #[.int .u32 0] 77 (0,0)))).alloc (.cells #[.int .i64 0] 47 (0,0)))).alloc (.map #[] 0))).alloc (.cells #[.map (some (w.heap.size+1+1+1+1+1))] 280 (0,0)))).alloc (.cells #[(.func (Fn.func 212) #[] #[.pointer (some ⟨w.heap.size+1+1+1+1+1+1,0,none⟩),.pointer (some ⟨w.heap.size,0,none⟩),.pointer (some ⟨w.heap.size+1+1,0,none⟩),.pointer (some ⟨w.heap.size+1+1+1+1+1+1+1,0,none⟩)])] 281 (0,0))) hRM hA (Nat.zero_le _) (yA.start K0 _) (iD.nil K0 L [] K0) ⟨0,fun _=>false,Nat.zero_le _,fun x=>by rw [K0.TC]⟩);have TE:=Lib.hid hRB;have HLT:=Lib.hid aW;clear Jl hRB hRM aW hW hA hL hFL Eg Tm
 go_enter_defers Tryz.func153,Tryz.ntmps153
 go_wp2_with fail;refine zA.out.mono ?_;rintro e w2 ⟨r,code,rfl,⟨K1,M1,T1,q1,ZR,D1,S1,KO1,R2,U2,SB2⟩,hr⟩
 have hn:∀ k,w.heap.size<=k->k≠w.heap.size+1+1+1+1+1->k∉oU (w.heap.size+1+1+1+1+1) wb b q lvv (.slice none 0 0):=fun k hk h5 hm=>by
  rcases List.mem_cons.1 hm with h | h
  ·exact h5 h
  ·have:=HLT.out k h;omega
 have e3:=(U2.block _ (ah TE.out.b3) (hn _ (by omega) (by omega))).trans TE.out.b3;have e4:=(U2.block _ (ah TE.out.b4) (hn _ (by omega) (by omega))).trans TE.out.b4;have e0:=(U2.block _ (ah TE.out.b0) (hn _ (by omega) (by omega))).trans TE.out.b0;have y3:=ae (j:=0) e3 rfl;have y4:=ae (j:=0) e4 rfl;have g3:=ax 0 e3;have g4:=ax 0 e4;have H2:=Lib.hid (And.intro S1 (And.intro R2 (And.intro U2 (And.intro SB2 (And.intro hr (And.intro hn (And.intro e0 (And.intro e3 e4))))))));clear S1 KO1 R2 U2 SB2 hr hn e3 e4 e0 c7 f7 zA;go_wp2_with fail
 have n34:(w.heap.size+1+1+1)≠(w.heap.size+1+1+1+1):=by omega
 have U9:af [w.heap.size+1+1+1,w.heap.size+1+1+1+1] w2 ((w2.setCell ⟨w.heap.size+1+1+1,0,none⟩ (.int .u32 r)).setCell ⟨w.heap.size+1+1+1+1,0,none⟩ (.int .i64 code)):=((af.refl _ w2).setCell (p:=⟨w.heap.size+1+1+1,0,none⟩) (.inl (by simp)) _).setCell (p:=⟨w.heap.size+1+1+1+1,0,none⟩) (.inl (by simp)) _
 have AO:∀ k,w.heap.size<=k->k<w.heap.size+1+1+1+1+1+1+1+1->k≠w.heap.size+1+1+1+1+1->k∉kN wb b q1 lvv ZR:=fun k hk hk8 h5 hm=>by
  rcases H2.out.2.2.2.1 k (List.mem_cons_of_mem _ hm) with h | h
  ·exact H2.out.2.2.2.2.2.1 k hk h5 h
  ·have:=ah TE.out.b7;omega
 have W9:=H2.out.2.1.wk.upd U9 (fun k hk hm=>by
  simp at hm
  rcases hm with rfl | rfl
  ·exact AO _ (by omega) (by omega) (by omega) hk
  ·exact AO _ (by omega) (by omega) (by omega) hk)
 have b9:((w2.setCell ⟨w.heap.size+1+1+1,0,none⟩ (.int .u32 r)).setCell ⟨w.heap.size+1+1+1+1,0,none⟩ (.int .i64 code)).heap[w.heap.size]?=_:=(U9.block _ (ah H2.out.2.2.2.2.2.2.1) (by simp;omega)).trans H2.out.2.2.2.2.2.2.1
 have b93:((w2.setCell ⟨w.heap.size+1+1+1,0,none⟩ (.int .u32 r)).setCell ⟨w.heap.size+1+1+1+1,0,none⟩ (.int .i64 code)).heap[w.heap.size+1+1+1]?=some (.cells #[.int .u32 r] 77 (0,0)):=by
  rw [aG n34,aB H2.out.2.2.2.2.2.2.2.1];rfl
 have b94:((w2.setCell ⟨w.heap.size+1+1+1,0,none⟩ (.int .u32 r)).setCell ⟨w.heap.size+1+1+1+1,0,none⟩ (.int .i64 code)).heap[w.heap.size+1+1+1+1]?=some (.cells #[.int .i64 code] 47 (0,0)):=by
  have e:(w2.setCell ⟨w.heap.size+1+1+1,0,none⟩ (.int .u32 r)).heap[w.heap.size+1+1+1+1]?=w2.heap[w.heap.size+1+1+1+1]?:=aG (Ne.symm n34)
  rw [aB (e.trans H2.out.2.2.2.2.2.2.2.2)];rfl
 have hlen:=H2.out.1.run.len H2.out.2.1.wk.ker.ok;refine leaves_cons (f:=210) (args:=#[.pointer (some ⟨w.heap.size,0,none⟩),.pointer (some ⟨w.heap.size+1+1+1,0,none⟩),.pointer (some ⟨w.heap.size+1+1+1+1,0,none⟩)]) (by simp) (by simp [go_sem]) ?_;refine (P8 wb b (w.heap.size) (w.heap.size+1+1+1) (w.heap.size+1+1+1+1) r code K0 K1 T1 q1 M1 lvv ZR .returning _ W9 (by have:=hlen.1;omega) H2.out.2.2.2.2.1 hlen.2 H2.out.1.run.hd H2.out.1.run.tr b9 b93 b94 (AO _ (by omega) (by omega) (by omega)) (AO _ (by omega) (by omega) (by omega)) n34).mono ?_;rintro e u' w3 ⟨rfl,rfl,z1,z2,hY⟩;have HY:=Lib.hid hY
 have HF:Hid (GX b K0 q L f g h (kN wb b q lvv (.slice none 0 0)) w (.returned (.tuple #[.int .u32 (dM M1 r code).1,.int .i64 (dM M1 r code).2])) w3):=by
  obtain ⟨K',T',q',hk,hu,hs,hx⟩:=HY.out.ex;have s2:=TE.out.up.size;have s3:=H2.out.2.2.1.size
  have U12:af (kN wb b q lvv (.slice none 0 0)) w w2:=(TE.out.up.mono (by simp):af (kN wb b q lvv (.slice none 0 0)) w _).then H2.out.2.2.1 (fun x hx=>by
   rcases List.mem_cons.1 hx with h | h
   ·right;omega
   ·exact .inl h)
  have SB:Sub (kN wb b q lvv (.slice none 0 0)) w (kN wb b q1 lvv ZR):=fun k hk=>by
   rcases H2.out.2.2.2.1 k (List.mem_cons_of_mem _ hk) with h | h
   ·rcases List.mem_cons.1 h with h | h
    ·right;omega
    ·exact .inl h
   ·right;omega
  have U23:=U12.then U9 (fun x hx=>by
   simp at hx
   rcases hx with rfl | rfl
   ·right;omega
   ·right;omega)
  have z:=U9.size;refine ⟨r,code,K1,M1,K',T',q',rfl,H2.out.1,H2.out.2.1.wk.ker.ok,H2.out.2.1.wk.ker.ti.uni H2.out.2.1.wk.ker.ok.wf,hx,hk,U23.then hu (fun x hx=>?_),fun k hk=>?_⟩
  ·simp at hx
   rcases hx with rfl | rfl | hx
   ·right;omega
   ·right;omega
   ·exact SB x hx
  ·rcases hs k hk with h | h
   ·exact SB k (List.mem_append.2 (.inl h))
   ·right
    have:w2.heap.size<=k:=Nat.le_trans z h;omega
 clear hY W9 b9 b93 b94 U9 y3 y4 g3 g4 HY;generalize (dM M1 r code).1=a at z1 HF;generalize (dM M1 r code).2=c at z2 HF
 simp [Leaves,settle,results,Tryz.results153,go_sem,z1,z2]
 exact HF.out
end Go.Proofs.YtfkopmhpppeheaaGreat
namespace Go.Proofs.YtfkopmhpppeheaaGreat
theorem sO {K0 K1 K':KV} (h0:K0.Ok) (h':K'.Ok) (e0:K0.Ext K1) (e':K'.Ext K1) (hd:∀ x,0<K0.hold x->0<K'.hold x):K0.Ext K':=by
 have same:∀ (r:Nat) (p:ak),K0.A.list[r]?=some p->p.taken=true->K'.A.tk r=true->K'.A.list[r]?=some p:=by
  intro r p hp aH ht
  obtain ⟨p',jo,lQ⟩:=ag.aP.1 ht;have a:=e0.nd r p hp aH;have b:=e'.nd r p' jo lQ
  rw [a] at b;cases b;exact jo
 have reach:∀ {r:Nat},K0.Reach r->K'.A.tk r=true:=by
  intro r hr
  induction hr with
  | root h=>exact (h'.wf.ht _ (hd _ h)).2
  | lo _ h2 hp aH ih=>exact (h'.wf.cl _ _ h2 (same _ _ hp aH ih) aH).1
  | hi _ h2 hp aH ih=>exact (h'.wf.cl _ _ h2 (same _ _ hp aH ih) aH).2
 refine ⟨fun r p hp aH=>same r p hp aH ?_,by rw [<- e'.pl,e0.pl],by rw [<- e'.vr,e0.vr],by rw [<- e'.od,e0.od],by rw [<- e'.lv,e0.lv]⟩
 by_cases h2:2<=r
 ·exact reach (KV.mZ h0.wf h0.pos h0.ord _ r h2 (ag.aP.2 ⟨p,hp,aH⟩) (Nat.le_refl _))
 ·exact h'.gX (by omega)
structure ajD (K0:KV) (t:(Nat->Bool)->Bool) (r:Nat) (K':KV):Prop where
 ext:K0.Ext K'
 tk:K'.A.tk r=true
 den:∀ x,K'.den r x=t x
 hd:∀ x,K'.hold x=K0.hold x+(if x=r/\2<=r then 1 else 0)
 tr:K'.trail=[]
 new:∀ x,K'.A.tk x=true->K0.A.tk x=false->K0.jv t (K'.den x)
structure TF (K0 K':KV):Prop where
 ext:K0.Ext K'
 back:K'.Ext K0
 hd:∀ x,K'.hold x=K0.hold x
 tr:K'.trail=[]\/K'.trail=K0.trail
def OpR (K0:KV) (t:(Nat->Bool)->Bool) (r:Nat) (code:Int) (K':KV):Prop :=
 (code=0/\ajD K0 t r K')\/(code=8/\r=0/\TF K0 K'/\∃ s,K0.A.tk s=true/\(∀ x,K0.den s x=t x)/\K0.hold s=65535)\/(code=9/\r=0/\TF K0 K'/\ZW K0 (K0.jv t))
theorem aeW {K0 K1 K':KV} {L:Bool->Bool->Bool->Bool} {f g h r:Nat} {code:Int} {M:List Nat} (h0:K0.Ok) (_h1:K1.Ok) (h':K'.Ok) (hA:pM K0 f g h) (S:oI K0 K0 L (K0.jv (K0.iE L f g h)) f g h [] r code K1 M) (X:abC K0 K1 M r code K') :
  OpR K0 (K0.iE L f g h) (dM M r code).1 (dM M r code).2 K':=by
 have back:K0.Ext K':=sO h0 h' S.run.ext X.ext fun x hx=>by rw [X.hd];omega
 have bad:(∀ x,K'.hold x=K0.hold x)->¬ (code=0/\r<2)->TF K0 K':=fun hd hn=>by
  refine ⟨back,sO h' h0 X.ext S.run.ext fun x hx=>by rw [<- hd];exact hx,hd,?_⟩
  by_cases hm:M=[]
  ·right
   rw [X.nil hm hn,S.run.nil hm]
  ·exact .inl (X.tr hm)
 rcases S.ans with ⟨rfl,G⟩ | ⟨rfl,bK⟩
 ·have pR:∀ x,K1.den r x=K0.iE L f g h x:=fun x=>by rw [G.den,S.run.ext.iE h0.wf hA.t0 hA.t1 hA.t2]
  by_cases hk:r<2\/r∈M
  ·have e1:dM M r 0=(r,0):=by unfold dM;rw [if_neg (by simp),if_pos hk]
   rw [e1];left
   have hd:∀ x,K'.hold x=K0.hold x+(if x=r/\2<=r then 1 else 0):=fun x=>by
    rw [X.hd]
    congr 1
    by_cases ex:x=r
    ·subst ex
     by_cases h2:2<=x
     ·have hm:x∈M:=hk.resolve_left (by omega)
      simp [h2,hm]
     ·simp [h2]
    ·simp [ex]
   have tk:K'.A.tk r=true:=by
    by_cases h2:2<=r
    ·exact (h'.wf.ht r (by rw [hd];simp [h2])).2
    ·exact h'.gX (by omega)
   refine ⟨rfl,back,tk,fun x=>?_,hd,?_,fun x t1 t2=>?_⟩
   ·rw [<- X.ext.den h'.wf x tk];exact pR x
   ·by_cases h2:r<2
    ·exact X.tc rfl h2
    ·have hm:r∈M:=hk.resolve_left h2
     exact X.tr (by rintro rfl;cases hm)
   ·have:=S.run.new x (X.ext.tk t1) t2
    have e:K1.den x=K'.den x:=by funext y;exact X.ext.den h'.wf y t1
    rw [<- e];exact this
  ·have h2:¬ r<2:=fun h=>hk (.inl h)
   have hm:r∉M:=fun h=>hk (.inr h)
   have e1:dM M r 0=(0,8):=by unfold dM;rw [if_neg (by simp),if_neg hk]
   rw [e1]
   right;left
   have hf:K0.hold r=65535:=(G.got.resolve_left h2).resolve_left hm;have tk0:=(h0.wf.ht r (by omega)).2;refine ⟨rfl,rfl,bad (fun x=>by rw [X.hd];simp [hm]) (fun h=>h2 h.2),r,tk0,fun x=>?_,hf⟩
   rw [<- S.run.ext.den h0.wf x tk0];exact pR x
 ·have e1:dM M r 9=(0,9):=by unfold dM;rw [if_pos (by decide)]
  rw [e1]
  right;right
  exact ⟨rfl,rfl,bad (fun x=>by rw [X.hd];simp) (by simp),bK⟩
end Go.Proofs.YtfkopmhpppeheaaGreat
namespace Go.Proofs.YtfkopmhpppeheaaGreat
open Go.RowKit Go.Maps Go.ChangeMaps Go.WideShapes
def Ll (K:KV) (i:Nat):List Nat:=(List.range K.vars).map fun v=>if K.lev v<i then K.lev v else 0
theorem AP (K:KV) (i:Nat):(Ll K i).length=K.vars:=by simp [Ll]
theorem AQ (K:KV) (i v:Nat) (h:v<K.vars):(Ll K i)[v]?=some (if K.lev v<i then K.lev v else 0):=by simp [Ll,h]
theorem TG (K:KV):aQ (Ll K 0)=(madeCells #[Value.int .i64 0] K.vars).toList:=by
 rw [BG]
 simp only [pU,List.range_zero,aQ,List.map_nil,List.nil_append,Nat.sub_zero,Ll,Nat.not_lt_zero,if_false,List.map_map]
 refine List.ext_getElem? fun j=>?_
 simp [List.getElem?_replicate]
 split <;> simp_all
theorem XU {K:KV} (h:K.Perm) {i v:Nat} (hi:i<K.vars) (hv:K.order.getD i 0=v):(Ll K i).set v i=Ll K (i+1):=by
 have ho:=h.oo i hi;rw [hv] at ho
 refine List.ext_getElem? fun j=>?_
 rw [List.getElem?_set]
 by_cases hj:j<K.vars
 ·rw [AQ K i j hj,AQ K (i+1) j hj]
  by_cases e:v=j
  ·subst e
   rw [if_pos rfl,if_pos (by rw [AP];exact hj),if_pos (by omega),ho.2]
  ·rw [if_neg e]
   have:K.lev j≠i:=fun e2=>e (h.inj ho.1 hj (by rw [ho.2,e2]))
   congr 1
   by_cases h1:K.lev j<i
   ·rw [if_pos h1,if_pos (by omega)]
   ·rw [if_neg h1,if_neg (by omega)]
 ·have e1:(Ll K i)[j]?=none:=List.getElem?_eq_none (by rw [AP];omega)
  have e2:(Ll K (i+1))[j]?=none:=List.getElem?_eq_none (by rw [AP];omega);rw [e1,e2];split
  ·rename_i e;subst e;omega
  ·rfl
theorem XV {K:KV} (h:K.Perm):Ll K K.vars=K.level:=by
 refine List.ext_getElem? fun j=>?_
 by_cases hj:j<K.vars
 ·rw [AQ K _ j hj,if_pos (h.lo j hj).1]
  have:j<K.level.length:=by rw [h.ll];exact hj
  simp [KV.lev,this]
 ·rw [List.getElem?_eq_none (by rw [AP];omega),List.getElem?_eq_none (by rw [h.ll];omega)]
structure BgR (w:World) (wb b gl go:Nat) (cap:Nat) (K:KV) (i:Nat) (wr:World):Prop where
 blk:wr.heap[wb]?=some (.cells #[.pointer (some ⟨b,0,none⟩),.slice (some ⟨gl,0,none⟩) K.vars K.vars,.slice none 0 0] 278 (0,0))
 row:wr.ownsRow w.heap.size 3 1 (.slice (some ⟨gl,0,none⟩) K.vars K.vars) K.vars (aQ (Ll K i))
 ord:wr.ownsRow w.heap.size 3 1 (.slice (some ⟨go,0,none⟩) K.vars cap) K.vars (aQ K.order)
 nwg:wb≠gl
 nog:go≠gl
 lb:w.heap.size<=wb
 up:af [] w wr
theorem BgR.step {w wr:World} {wb b gl go cap i v:Nat} {K:KV} (h:BgR w wb b gl go cap K i wr) (hp:K.Perm) (hi:i<K.vars) (hv:K.order.getD i 0=v):BgR w wb b gl go cap K (i+1) (wr.setCell ⟨gl,v,none⟩ (.int .i64 i)):=by
 have gK:=(hp.oo i hi).1;rw [hv] at gK;refine ⟨by rw [aG h.nwg];exact h.blk,?_,bf h.ord (a:=⟨gl,v,none⟩) (by simp [Value.ownBlock];exact Ne.symm h.nog) _,h.nwg,h.nog,h.lb,h.up.setCell (p:=⟨gl,v,none⟩) (.inr (h.row.lt gl rfl).1) _⟩;have:=dL h.row (j:=v) (by omega) (.int .i64 i);rw [<- XU hp hi hv]
 have e:(aQ (Ll K i)).set v (.int .i64 i)=aQ ((Ll K i).set v i):=by simp [aQ,List.map_set]
 rw [<- e];exact this
theorem BgR.done {w wr:World} {wb b gl go cap:Nat} {K:KV} {T:List DM} {q:aA} (h:BgR w wb b gl go cap K K.vars wr) (hk:bV w b K T q) :
  WK wr wb b K T q [] (.slice (some ⟨gl,0,none⟩) K.vars K.vars) (.slice none 0 0)/\af [] w wr/\∀ k,k∈sQ wb (.slice (some ⟨gl,0,none⟩) K.vars K.vars) (.slice none 0 0)->w.heap.size<=k:=by
 have FD:=h.row.lt gl rfl;have hlb:=h.lb
 have hF:∀ k,k∈sQ wb (.slice (some ⟨gl,0,none⟩) K.vars K.vars) (.slice none 0 0)->w.heap.size<=k:=fun k hk=>by
  rcases di.1 hk with h | h | h
  ·omega
  ·simp [Value.ownBlock] at h;omega
  ·simp [Value.ownBlock] at h
 refine ⟨⟨hk.upd h.up (by simp),⟨h.blk,?_,World.ownsRow_nil _ _ _ _,by simp [Value.ownBlock];exact Ne.symm h.nwg,by simp [Value.ownBlock],fun k _=>by simp [Value.ownBlock]⟩,fun k hm hf=>?_⟩,h.up,hF⟩
 ·have:=df h.row (Nat.zero_le _)
  rw [XV hk.ok.ord.pm] at this
  rw [hk.ok.ord.pm.ll];exact this
 ·have:=hk.mem.lt k hm
  have:=hF k hf;omega
theorem TI (b:Nat) (K:KV) (T:List DM) (q:aA) (lv:Value) (rs:List Nat) (w:World) (h:bV w b K T q) (aC:w.ownsRow 0 77 1 lv rs.length (aI rs)) (hl:∀ r,r∈rs->K.A.tk r=true) (hlen:rs.length<=1099511627776) :
  Calls Tryz.prog 152 #[.pointer (some ⟨b,0,none⟩),lv] w fun e w' =>
   ∃ (wb:Nat) (lvv:Value),e=.returned (.tuple #[.pointer (some ⟨wb,0,none⟩),.int .i64 0])/\WK w' wb b K T q [] lvv (.slice none 0 0)/\af [] w w'/\∀ k,k∈sQ wb lvv (.slice none 0 0)->w.heap.size<=k:=by
 obtain ⟨fa,fc,rfl,_⟩:=aj aC;obtain ⟨i2,eU,fE,dR,fU⟩:=info_parts Tryz.BH;have HI:=Lib.hid (And.intro eU (And.intro fE (And.intro dR fU)));have HK:=Lib.hid h;have HR:=Lib.hid aC;have HL:=Lib.hid hl;have zx:=h.ok.wf.vs;have yC:=h.ok.ord.pm.ol;clear h aC hl eU fE dR fU
 go_enter Tryz.func152,Tryz.ntmps152
 go_wp2_with fail
 go_loopg [17] rs.length (fun g s17 wr=>∃ i:Nat,rs.length-i=g/\i<=rs.length/\s17=.int .i64 i/\af [] w wr)
 case atStart=>exact ⟨0,by omega,by omega,rfl,af.refl _ _⟩
 case round =>
  obtain ⟨i,rfl,hi,rfl,hU⟩:=hrel
  by_cases aW:i<rs.length
  ·obtain ⟨f,hf⟩ : ∃ f,rs[i]?=some f:=⟨_,List.getElem?_eq_getElem aW⟩
   have kC:=HL.out f (List.mem_of_getElem? hf);obtain ⟨p,hp,aH⟩:=ag.aP.1 kC;obtain ⟨g,rfl⟩:=bC HR.out (by omega)
   have hr:=ai HR.out fun k hk=>hU.block k (HR.out.lt k hk).2 (by simp)
   have cf:wr.cell? ⟨g,i,none⟩=some (.int .u32 f):=au hr (by simp [aI,hf])
   have fF:(i:Int)<(rs.length:Int):=by omega
   have Es:=HK.out.ok.bZ kC;have HP:=Lib.hid (And.intro hp aH);have HU:=Lib.hid hU;clear hU hr kC hp aH hf;go_wp2_with fail;refine (iF b f K T q p _ (HK.out.upd HU.out (by simp)).mem (by omega) HP.out.1 HP.out.2).mono ?_;rintro e w1 ⟨rfl,hu⟩;have mG:=Lib.hid (HU.out.trans hu);clear hu;go_wp2_with fail
   go_roundg (rs.length-(i+1))
   case measure=>omega
   case rel=>exact ⟨i+1,rfl,by omega,by simp,mG.out.alloc _⟩
  ·have fF:¬ ((i:Int)<(rs.length:Int)):=by omega
   have HU:=Lib.hid hU;clear hU;go_wp2_with fail;refine (FH b K T q _ (HK.out.upd HU.out (by simp)).mem).mono ?_;rintro e w1 ⟨rfl,rfl⟩
   go_wp2_with (refine wpList_make_full _ rfl (.tmp 33) (.tmp 33) 23 rfl w1.heap.size 3 i2 (.int .i64 0) 1 Tryz.underlying23 HI.out.1 HI.out.2.1 HI.out.2.2.1 .i64 .i64 _ _ K.vars rfl rfl rfl rfl (by rw [HI.out.2.2.2];omega) (by unfold maxLen;omega) (Nat.le_refl _) ?_)
   obtain ⟨gl,FD⟩ : ∃ g,w1.heap.size=g:=⟨_,rfl⟩;rw [FD]
   intro w2 ho dh
   have ZX:af [] w1 w2:=(af.refl [] w1).grown dh (by simp);have aeX:=(ho.lt gl rfl).2;have LZ:=Lib.hid (And.intro ho (And.intro ZX (And.intro FD aeX)));clear ho dh ZX;go_wp2_with fail;have UA:af [] w (w2.alloc (.cells #[.pointer (some ⟨b,0,none⟩),.slice (some ⟨gl,0,none⟩) K.vars K.vars,.slice none 0 0] 278 (0,0))):=(HU.out.trans LZ.out.2.1).alloc _;have HUA:=Lib.hid UA;refine (qH b K T q _ (HK.out.upd UA (by simp)).mem (by omega) (by omega)).mono ?_;rintro e w3 ⟨go,cap,rfl,TJ,fG⟩
   have HBG:Hid (BgR w w2.heap.size b gl go cap K 0 w3):=by
    obtain ⟨r1,r2,r3,r4⟩:=LZ.out;have hs:=HU.out.size;have hal:=heap_alloc_new w2 (.cells #[.pointer (some ⟨b,0,none⟩),.slice (some ⟨gl,0,none⟩) K.vars K.vars,.slice none 0 0] 278 (0,0));have hz:=TJ.lt go rfl;rw [World.size_alloc] at hz;have dR:=r2.size;refine ⟨(fG.block _ (ah hal) (by simp)).trans hal,?_,?_,by omega,by omega,by omega,HUA.out.trans fG⟩
    ·rw [TG]
     refine ai (df r1 (by omega)) fun k hk=>?_
     simp [Value.ownBlock] at hk;subst hk
     rw [fG.block _ (by rw [World.size_alloc];omega) (by simp),heap_alloc_old _ _ r4]
    ·have e:K.vars=K.order.length:=yC.symm
     have:=df TJ (show w.heap.size<=_ by rw [World.size_alloc];omega)
     rw [yC] at this;exact this
   rw [yC];clear TJ fG UA LZ FD aeX;generalize w2.heap.size=wb at HBG;go_wp2_with fail
   go_loopg [40] K.vars (fun g s40 wr=>∃ i:Nat,K.vars-i=g/\i<=K.vars/\s40=.int .i64 i/\BgR w wb b gl go cap K i wr)
   case atStart=>exact ⟨0,by omega,by omega,rfl,HBG.out⟩
   case round =>
    obtain ⟨j,rfl,hj,rfl,hE⟩:=hrel
    by_cases hjt:j<K.vars
    ·obtain ⟨v,hv⟩ : ∃ v,K.order.getD j 0=v:=⟨_,rfl⟩
     have IZ:=HK.out.ok.ord.pm;have gK:=(IZ.oo j hjt).1;rw [hv] at gK
     have cv:wr.cell? ⟨go,j,none⟩=some (.int .i64 v):=au hE.ord (by
      have e:K.order[j]?=some v:=by
       rw [<- hv,List.getD_eq_getElem?_getD,List.getElem?_eq_getElem (by omega)];rfl
      simp [aQ,e])
     have c1:wr.cell? ⟨wb,1,none⟩=some (.slice (some ⟨gl,0,none⟩) K.vars K.vars):=ae hE.blk rfl;have cg:wr.cell? ⟨gl,v,none⟩=some (.int .i64 ((if K.lev v<j then K.lev v else 0:Nat):Int)):=au hE.row (by simp [aQ,AQ K j v gK]);have fg:=aS hE.row v
     have OJ:(j:Int)<(K.vars:Int):=by omega
     have hvi:(v:Int)<(K.vars:Int):=by omega
     have HE:=Lib.hid (hE.step IZ hjt hv);clear hE IZ hv;go_wp2_with fail
     go_roundg (K.vars-(j+1))
     case measure=>omega
     case rel=>exact ⟨j+1,rfl,by omega,by simp,HE.out⟩
    ·obtain rfl:j=K.vars:=by omega
     have OJ:¬ ((K.vars:Int)<(K.vars:Int)):=by omega
     have HE:=Lib.hid hE;clear hE;go_wp2_with fail;go_ret2;exact ⟨wb,rfl,_,HE.out.done HK.out⟩
theorem wY (a:Bool) (w:World):Calls Tryz.prog 166 #[.bool a] w fun e w'=>e=.returned (.int .u8 (if a then 1 else 0:Nat))/\w'=w:=by
 cases a with
 | true =>
  go_enter Tryz.func166,Tryz.ntmps166
  go_wp2_with fail;go_ret;exact ⟨rfl,rfl⟩
 | false =>
  go_enter Tryz.func166,Tryz.ntmps166
  go_wp2_with fail;go_ret;exact ⟨rfl,rfl⟩
def SC (op:Nat) (a b:Bool):Bool:=op.testBit (2*(if a then 1 else 0)+(if b then 1 else 0))
theorem abG (op:Nat) (h:op<=15):(bits BinOp.and IntKind.u8 (op:Int) 1 == 1)=SC op false false/\(bits BinOp.and IntKind.u8 ((op:Int)/2) 1 == 1)=SC op false true/\(bits BinOp.and IntKind.u8 ((op:Int)/4) 1 == 1)=SC op true false/\(bits BinOp.and IntKind.u8 ((op:Int)/8) 1 == 1)=SC op true true:=by
 have key:∀ op∈List.range 16,((bits BinOp.and IntKind.u8 (op:Int) 1 == 1)=SC op false false/\(bits BinOp.and IntKind.u8 ((op:Int)/2) 1 == 1)=SC op false true/\(bits BinOp.and IntKind.u8 ((op:Int)/4) 1 == 1)=SC op true false/\(bits BinOp.and IntKind.u8 ((op:Int)/8) 1 == 1)=SC op true true):=by decide
 exact key op (List.mem_range.2 (by omega))
theorem L6 (op cb:Nat) (a b c:Bool) (w:World) (ho:op<=15) (hc:w.cell? ⟨cb,0,none⟩=some (.int .u8 op)) :
  Calls Tryz.prog 165 #[.bool a,.bool b,.bool c,.pointer (some ⟨cb,0,none⟩)] w fun e w'=>e=.returned (.bool (SC op a b))/\af [] w w':=by
 have hb:=World.block_lt_of_cell? _ _ hc;have HK:=Lib.hid (abG op ho)
 cases a <;> cases b
 ·go_enter Tryz.func165,Tryz.ntmps165
  go_wp2_with fail
  go_quiet ((go_at_call 166;exact Calls.quiet_of_same (wY _ _)))
  go_wp2_with fail;go_ret;exact ⟨by rw [<- HK.out.1];rfl,(af.refl _ _).drewN _⟩
 ·go_enter Tryz.func165,Tryz.ntmps165
  go_wp2_with fail
  go_quiet ((go_at_call 166;exact Calls.quiet_of_same (wY _ _)))
  go_wp2_with fail;go_ret;exact ⟨by rw [<- HK.out.2.1];rfl,(af.refl _ _).drewN _⟩
 ·go_enter Tryz.func165,Tryz.ntmps165
  go_wp2_with fail
  go_quiet ((go_at_call 166;exact Calls.quiet_of_same (wY _ _)))
  go_wp2_with fail;go_ret;exact ⟨by rw [<- HK.out.2.2.1];rfl,(af.refl _ _).drewN _⟩
 ·go_enter Tryz.func165,Tryz.ntmps165
  go_wp2_with fail
  go_quiet ((go_at_call 166;exact Calls.quiet_of_same (wY _ _)))
  go_wp2_with fail;go_ret;exact ⟨by rw [<- HK.out.2.2.2];rfl,(af.refl _ _).drewN _⟩
theorem TK:Enters 165:=fun args w=>by simp [go_sem]
end Go.Proofs.YtfkopmhpppeheaaGreat
