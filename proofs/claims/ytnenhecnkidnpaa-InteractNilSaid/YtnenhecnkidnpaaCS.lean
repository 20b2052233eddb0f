/- Package count: below, live, Support. -/
import Derived.Test.YtnenhecnkidnpaaCW
namespace Go.Proofs.Ytnenhecnkidnpaa
open Go.RowKit Go.Maps Go.ChangeMaps Go.WideShapes

theorem enters_walk : Enters 62 := fun args w => by simp [go_sem]
theorem enters_sup : Enters 47 := fun args w => by simp [go_sem]

theorem own_emptyR {W : World} {mb : Nat} (h : W.heap[mb]? = some (.map #[] 0)) : W.ownsMap Try.prog 27 (plainElem (H := Unit) Try.prog 3) mb 0 (.map []) := by
  obtain ⟨es, clock, q1, q2, q3, q4⟩ := World.ownsMap_made W Try.prog 27 (plainElem (H := Unit) Try.prog 3)
  rw [heap_alloc_new] at q1
  cases q1
  exact ⟨#[], 0, h, q2, Nat.zero_le _, rfl⟩

/-- walks from a list -/
inductive WalkL (K : KV) : List Nat → List Nat → List Nat → Prop
  | nil (V : List Nat) : WalkL K V [] []
  | cons {V N N' : List Nat} {r : Nat} {rs : List Nat} (h : WalkN K V r N) (t : WalkL K (V ++ N) rs N') : WalkL K V (r :: rs) (N ++ N')

theorem WalkL.snoc {K : KV} {V rs N : List Nat} (h : WalkL K V rs N) : ∀ {r : Nat} {N1 : List Nat}, WalkN K (V ++ N) r N1 → WalkL K V (rs ++ [r]) (N ++ N1) := by
  induction h with
  | nil V => intro r N1 h1; have := WalkL.cons (by simpa using h1) (WalkL.nil (K := K) (V ++ N1)); simpa using this
  | cons h t ih =>
    intro r N1 h1
    have := ih (by simpa [List.append_assoc] using h1)
    have := WalkL.cons h this
    simpa [List.append_assoc] using this

theorem WalkL.nodup {K : KV} {V rs N : List Nat} (h : WalkL K V rs N) : V.Nodup → (V ++ N).Nodup := by
  induction h with
  | nil V => intro h; simpa using h
  | cons h t ih => intro _; have := ih h.nd; simpa [List.append_assoc] using this

/-- below's post -/
structure BelowQ (b sb : Nat) (ty : TypeId) (enc : Int → Value) (step : Int → Nat → Int) (K : KV) (T : List DM) (q : KPtr) (rs : List Nat) (s : Int) (w w' : World) : Prop where
  ex : ∃ N : List Nat, WalkL K [] rs N ∧ KerIn w' b K T q ∧ w'.heap[sb]? = some (.cells #[enc (N.foldl (fun s x => step s (K.vof x)) s)] ty (0, 0)) ∧ Upd [sb] w w'

/-- the memory that below lays out -/
structure BelB (w : World) (b fl : Nat) (caps : Array Value) (W : World) : Prop where
  b0 : W.heap[w.heap.size]? = some (.cells #[.pointer (some ⟨b, 0, none⟩)] 38 (0, 0))
  b1 : W.heap[w.heap.size + 1]? = some (.cells #[.func (Fn.func fl) #[] caps] 91 (0, 0))
  b2 : W.heap[w.heap.size + 1 + 1]? = some (.map #[] 0)
  b3 : W.heap[w.heap.size + 1 + 1 + 1]? = some (.cells #[.map (some (w.heap.size + 1 + 1))] 51 (0, 0))
  b4 : W.heap[w.heap.size + 1 + 1 + 1 + 1]? = some (.cells #[(.func (Fn.func 62) #[] #[.pointer (some ⟨w.heap.size + 1 + 1 + 1, 0, none⟩), .pointer (some ⟨w.heap.size, 0, none⟩), .pointer (some ⟨w.heap.size + 1, 0, none⟩), .pointer (some ⟨w.heap.size + 1 + 1 + 1 + 1, 0, none⟩)])] 115 (0, 0))
  up : Upd [] w W

theorem below_laid (w : World) (b fl : Nat) (caps : Array Value) : ((((((((w.alloc (.cells #[.pointer (some ⟨b, 0, none⟩)] 38 (0, 0)))).alloc (.cells #[.func (Fn.func fl) #[] caps] 91 (0, 0)))).alloc (.map #[] 0))).alloc (.cells #[.map (some (w.heap.size + 1 + 1))] 51 (0, 0))).alloc (.cells #[.nilFunc] 115 (0, 0))).heap[w.heap.size + 1 + 1 + 1 + 1]? = some (.cells #[.nilFunc] 115 (0, 0)) ∧ BelB w b fl caps (((((((((w.alloc (.cells #[.pointer (some ⟨b, 0, none⟩)] 38 (0, 0)))).alloc (.cells #[.func (Fn.func fl) #[] caps] 91 (0, 0)))).alloc (.map #[] 0))).alloc (.cells #[.map (some (w.heap.size + 1 + 1))] 51 (0, 0)))).alloc (.cells #[(.func (Fn.func 62) #[] #[.pointer (some ⟨w.heap.size + 1 + 1 + 1, 0, none⟩), .pointer (some ⟨w.heap.size, 0, none⟩), .pointer (some ⟨w.heap.size + 1, 0, none⟩), .pointer (some ⟨w.heap.size + 1 + 1 + 1 + 1, 0, none⟩)])] 115 (0, 0))) := by
  have z0 : w.heap.size = w.heap.size := by first | rfl | simp only [World.size_alloc]
  have n0 : (w.alloc (.cells #[.pointer (some ⟨b, 0, none⟩)] 38 (0, 0))).heap[w.heap.size]? = some (.cells #[.pointer (some ⟨b, 0, none⟩)] 38 (0, 0)) := by
    have e := heap_alloc_new w (.cells #[.pointer (some ⟨b, 0, none⟩)] 38 (0, 0))
    rw [z0] at e; exact e
  have n0_1 : (((w.alloc (.cells #[.pointer (some ⟨b, 0, none⟩)] 38 (0, 0)))).alloc (.cells #[.func (Fn.func fl) #[] caps] 91 (0, 0))).heap[w.heap.size]? = some (.cells #[.pointer (some ⟨b, 0, none⟩)] 38 (0, 0)) := (heap_alloc_old _ _ (heap_lt n0)).trans n0
  have n0_2 : (((((w.alloc (.cells #[.pointer (some ⟨b, 0, none⟩)] 38 (0, 0)))).alloc (.cells #[.func (Fn.func fl) #[] caps] 91 (0, 0)))).alloc (.map #[] 0)).heap[w.heap.size]? = some (.cells #[.pointer (some ⟨b, 0, none⟩)] 38 (0, 0)) := (heap_alloc_old _ _ (heap_lt n0_1)).trans n0_1
  have n0_3 : (((((((w.alloc (.cells #[.pointer (some ⟨b, 0, none⟩)] 38 (0, 0)))).alloc (.cells #[.func (Fn.func fl) #[] caps] 91 (0, 0)))).alloc (.map #[] 0))).alloc (.cells #[.map (some (w.heap.size + 1 + 1))] 51 (0, 0))).heap[w.heap.size]? = some (.cells #[.pointer (some ⟨b, 0, none⟩)] 38 (0, 0)) := (heap_alloc_old _ _ (heap_lt n0_2)).trans n0_2
  have n0_4 : (((((((((w.alloc (.cells #[.pointer (some ⟨b, 0, none⟩)] 38 (0, 0)))).alloc (.cells #[.func (Fn.func fl) #[] caps] 91 (0, 0)))).alloc (.map #[] 0))).alloc (.cells #[.map (some (w.heap.size + 1 + 1))] 51 (0, 0)))).alloc (.cells #[(.func (Fn.func 62) #[] #[.pointer (some ⟨w.heap.size + 1 + 1 + 1, 0, none⟩), .pointer (some ⟨w.heap.size, 0, none⟩), .pointer (some ⟨w.heap.size + 1, 0, none⟩), .pointer (some ⟨w.heap.size + 1 + 1 + 1 + 1, 0, none⟩)])] 115 (0, 0))).heap[w.heap.size]? = some (.cells #[.pointer (some ⟨b, 0, none⟩)] 38 (0, 0)) := (heap_alloc_old _ _ (heap_lt n0_3)).trans n0_3
  have z1 : (w.alloc (.cells #[.pointer (some ⟨b, 0, none⟩)] 38 (0, 0))).heap.size = w.heap.size + 1 := by first | rfl | simp only [World.size_alloc]
  have n1 : (((w.alloc (.cells #[.pointer (some ⟨b, 0, none⟩)] 38 (0, 0)))).alloc (.cells #[.func (Fn.func fl) #[] caps] 91 (0, 0))).heap[w.heap.size + 1]? = some (.cells #[.func (Fn.func fl) #[] caps] 91 (0, 0)) := by
    have e := heap_alloc_new (w.alloc (.cells #[.pointer (some ⟨b, 0, none⟩)] 38 (0, 0))) (.cells #[.func (Fn.func fl) #[] caps] 91 (0, 0))
    rw [z1] at e; exact e
  have n1_2 : (((((w.alloc (.cells #[.pointer (some ⟨b, 0, none⟩)] 38 (0, 0)))).alloc (.cells #[.func (Fn.func fl) #[] caps] 91 (0, 0)))).alloc (.map #[] 0)).heap[w.heap.size + 1]? = some (.cells #[.func (Fn.func fl) #[] caps] 91 (0, 0)) := (heap_alloc_old _ _ (heap_lt n1)).trans n1
  have n1_3 : (((((((w.alloc (.cells #[.pointer (some ⟨b, 0, none⟩)] 38 (0, 0)))).alloc (.cells #[.func (Fn.func fl) #[] caps] 91 (0, 0)))).alloc (.map #[] 0))).alloc (.cells #[.map (some (w.heap.size + 1 + 1))] 51 (0, 0))).heap[w.heap.size + 1]? = some (.cells #[.func (Fn.func fl) #[] caps] 91 (0, 0)) := (heap_alloc_old _ _ (heap_lt n1_2)).trans n1_2
  have n1_4 : (((((((((w.alloc (.cells #[.pointer (some ⟨b, 0, none⟩)] 38 (0, 0)))).alloc (.cells #[.func (Fn.func fl) #[] caps] 91 (0, 0)))).alloc (.map #[] 0))).alloc (.cells #[.map (some (w.heap.size + 1 + 1))] 51 (0, 0)))).alloc (.cells #[(.func (Fn.func 62) #[] #[.pointer (some ⟨w.heap.size + 1 + 1 + 1, 0, none⟩), .pointer (some ⟨w.heap.size, 0, none⟩), .pointer (some ⟨w.heap.size + 1, 0, none⟩), .pointer (some ⟨w.heap.size + 1 + 1 + 1 + 1, 0, none⟩)])] 115 (0, 0))).heap[w.heap.size + 1]? = some (.cells #[.func (Fn.func fl) #[] caps] 91 (0, 0)) := (heap_alloc_old _ _ (heap_lt n1_3)).trans n1_3
  have z2 : (((w.alloc (.cells #[.pointer (some ⟨b, 0, none⟩)] 38 (0, 0)))).alloc (.cells #[.func (Fn.func fl) #[] caps] 91 (0, 0))).heap.size = w.heap.size + 1 + 1 := by first | rfl | simp only [World.size_alloc]
  have n2 : (((((w.alloc (.cells #[.pointer (some ⟨b, 0, none⟩)] 38 (0, 0)))).alloc (.cells #[.func (Fn.func fl) #[] caps] 91 (0, 0)))).alloc (.map #[] 0)).heap[w.heap.size + 1 + 1]? = some (.map #[] 0) := by
    have e := heap_alloc_new (((w.alloc (.cells #[.pointer (some ⟨b, 0, none⟩)] 38 (0, 0)))).alloc (.cells #[.func (Fn.func fl) #[] caps] 91 (0, 0))) (.map #[] 0)
    rw [z2] at e; exact e
  have n2_3 : (((((((w.alloc (.cells #[.pointer (some ⟨b, 0, none⟩)] 38 (0, 0)))).alloc (.cells #[.func (Fn.func fl) #[] caps] 91 (0, 0)))).alloc (.map #[] 0))).alloc (.cells #[.map (some (w.heap.size + 1 + 1))] 51 (0, 0))).heap[w.heap.size + 1 + 1]? = some (.map #[] 0) := (heap_alloc_old _ _ (heap_lt n2)).trans n2
  have n2_4 : (((((((((w.alloc (.cells #[.pointer (some ⟨b, 0, none⟩)] 38 (0, 0)))).alloc (.cells #[.func (Fn.func fl) #[] caps] 91 (0, 0)))).alloc (.map #[] 0))).alloc (.cells #[.map (some (w.heap.size + 1 + 1))] 51 (0, 0)))).alloc (.cells #[(.func (Fn.func 62) #[] #[.pointer (some ⟨w.heap.size + 1 + 1 + 1, 0, none⟩), .pointer (some ⟨w.heap.size, 0, none⟩), .pointer (some ⟨w.heap.size + 1, 0, none⟩), .pointer (some ⟨w.heap.size + 1 + 1 + 1 + 1, 0, none⟩)])] 115 (0, 0))).heap[w.heap.size + 1 + 1]? = some (.map #[] 0) := (heap_alloc_old _ _ (heap_lt n2_3)).trans n2_3
  have z3 : (((((w.alloc (.cells #[.pointer (some ⟨b, 0, none⟩)] 38 (0, 0)))).alloc (.cells #[.func (Fn.func fl) #[] caps] 91 (0, 0)))).alloc (.map #[] 0)).heap.size = w.heap.size + 1 + 1 + 1 := by first | rfl | simp only [World.size_alloc]
  have n3 : (((((((w.alloc (.cells #[.pointer (some ⟨b, 0, none⟩)] 38 (0, 0)))).alloc (.cells #[.func (Fn.func fl) #[] caps] 91 (0, 0)))).alloc (.map #[] 0))).alloc (.cells #[.map (some (w.heap.size + 1 + 1))] 51 (0, 0))).heap[w.heap.size + 1 + 1 + 1]? = some (.cells #[.map (some (w.heap.size + 1 + 1))] 51 (0, 0)) := by
    have e := heap_alloc_new (((((w.alloc (.cells #[.pointer (some ⟨b, 0, none⟩)] 38 (0, 0)))).alloc (.cells #[.func (Fn.func fl) #[] caps] 91 (0, 0)))).alloc (.map #[] 0)) (.cells #[.map (some (w.heap.size + 1 + 1))] 51 (0, 0))
    rw [z3] at e; exact e
  have n3_4 : (((((((((w.alloc (.cells #[.pointer (some ⟨b, 0, none⟩)] 38 (0, 0)))).alloc (.cells #[.func (Fn.func fl) #[] caps] 91 (0, 0)))).alloc (.map #[] 0))).alloc (.cells #[.map (some (w.heap.size + 1 + 1))] 51 (0, 0)))).alloc (.cells #[(.func (Fn.func 62) #[] #[.pointer (some ⟨w.heap.size + 1 + 1 + 1, 0, none⟩), .pointer (some ⟨w.heap.size, 0, none⟩), .pointer (some ⟨w.heap.size + 1, 0, none⟩), .pointer (some ⟨w.heap.size + 1 + 1 + 1 + 1, 0, none⟩)])] 115 (0, 0))).heap[w.heap.size + 1 + 1 + 1]? = some (.cells #[.map (some (w.heap.size + 1 + 1))] 51 (0, 0)) := (heap_alloc_old _ _ (heap_lt n3)).trans n3
  have z4 : (((((((w.alloc (.cells #[.pointer (some ⟨b, 0, none⟩)] 38 (0, 0)))).alloc (.cells #[.func (Fn.func fl) #[] caps] 91 (0, 0)))).alloc (.map #[] 0))).alloc (.cells #[.map (some (w.heap.size + 1 + 1))] 51 (0, 0))).heap.size = w.heap.size + 1 + 1 + 1 + 1 := by first | rfl | simp only [World.size_alloc]
  have n4 : (((((((((w.alloc (.cells #[.pointer (some ⟨b, 0, none⟩)] 38 (0, 0)))).alloc (.cells #[.func (Fn.func fl) #[] caps] 91 (0, 0)))).alloc (.map #[] 0))).alloc (.cells #[.map (some (w.heap.size + 1 + 1))] 51 (0, 0)))).alloc (.cells #[(.func (Fn.func 62) #[] #[.pointer (some ⟨w.heap.size + 1 + 1 + 1, 0, none⟩), .pointer (some ⟨w.heap.size, 0, none⟩), .pointer (some ⟨w.heap.size + 1, 0, none⟩), .pointer (some ⟨w.heap.size + 1 + 1 + 1 + 1, 0, none⟩)])] 115 (0, 0))).heap[w.heap.size + 1 + 1 + 1 + 1]? = some (.cells #[(.func (Fn.func 62) #[] #[.pointer (some ⟨w.heap.size + 1 + 1 + 1, 0, none⟩), .pointer (some ⟨w.heap.size, 0, none⟩), .pointer (some ⟨w.heap.size + 1, 0, none⟩), .pointer (some ⟨w.heap.size + 1 + 1 + 1 + 1, 0, none⟩)])] 115 (0, 0)) := by
    have e := heap_alloc_new (((((((w.alloc (.cells #[.pointer (some ⟨b, 0, none⟩)] 38 (0, 0)))).alloc (.cells #[.func (Fn.func fl) #[] caps] 91 (0, 0)))).alloc (.map #[] 0))).alloc (.cells #[.map (some (w.heap.size + 1 + 1))] 51 (0, 0))) (.cells #[(.func (Fn.func 62) #[] #[.pointer (some ⟨w.heap.size + 1 + 1 + 1, 0, none⟩), .pointer (some ⟨w.heap.size, 0, none⟩), .pointer (some ⟨w.heap.size + 1, 0, none⟩), .pointer (some ⟨w.heap.size + 1 + 1 + 1 + 1, 0, none⟩)])] 115 (0, 0))
    rw [z4] at e; exact e
  refine ⟨?_, n0_4, n1_4, n2_4, n3_4, n4, (((((Upd.refl [] w).alloc _).alloc _).alloc _).alloc _).alloc _⟩
  have e := heap_alloc_new (((((((w.alloc (.cells #[.pointer (some ⟨b, 0, none⟩)] 38 (0, 0)))).alloc (.cells #[.func (Fn.func fl) #[] caps] 91 (0, 0)))).alloc (.map #[] 0))).alloc (.cells #[.map (some (w.heap.size + 1 + 1))] 51 (0, 0))) (.cells #[.nilFunc] 115 (0, 0))
  rw [z4] at e; exact e

theorem BelB.walkM {w W : World} {b sb fl : Nat} {caps : Array Value} {ty : TypeId} {enc : Int → Value} {K : KV} {T : List DM} {q : KPtr} {s : Int} (B : BelB w b fl caps W) (hk : KerIn w b K T q) (hs : w.heap[sb]? = some (.cells #[enc s] ty (0, 0))) (hd : sb ∉ q.all b) :
    WalkM W b (w.heap.size + 1 + 1 + 1) (w.heap.size) (w.heap.size + 1) (w.heap.size + 1 + 1 + 1 + 1) (w.heap.size + 1 + 1) sb fl caps ty enc K T q (.map []) s := by
  have hlt := hk.mem.lt
  have hsb := heap_lt hs
  refine ⟨hk.upd B.up (by simp), B.b3, B.b0, B.b1, B.b4, (B.up.block _ hsb (by simp)).trans hs, own_emptyR B.b2, fun k hk => ?_, ⟨by omega, by omega, by omega, by omega, by omega⟩, ⟨by omega, by omega, by omega, by omega⟩⟩
  have := hlt k hk
  exact ⟨by omega, by omega, by omega, by omega, by omega, fun e => hd (e ▸ hk)⟩

set_option maxRecDepth 100000 in
set_option maxHeartbeats 1600000 in
theorem below_spec (b sb fl : Nat) (caps : Array Value) (ty : TypeId) (enc : Int → Value) (step : Int → Nat → Int) (K : KV) (T : List DM) (q : KPtr) (lv : Value) (rs : List Nat) (s : Int) (w : World) (hen : Enters fl) (hCb : CbOk fl caps sb ty enc step) (hk : KerIn w b K T q) (hs : w.heap[sb]? = some (.cells #[enc s] ty (0, 0))) (hd : sb ∉ q.all b)
    (hrow : w.ownsRow 0 27 1 lv rs.length (flatRefs rs)) (hrs : lv.ownBlock ≠ some sb) (hl : ∀ r, r ∈ rs → K.A.tk r = true) (hlen : rs.length ≤ 1099511627776) :
    Calls Try.prog 46 #[.pointer (some ⟨b, 0, none⟩), lv, .func (Fn.func fl) #[] caps] w fun e w' => e = .returned (.tuple #[]) ∧ BelowQ b sb ty enc step K T q rs s w w' := by
  have hmf : ∀ (fn : Fn) (first cap : Array Value) (w : World), (Instr.makeFunc fn first cap).run Try.prog w = .ok (.func fn first cap) w := fun _ _ _ _ => rfl
  have hmm := @run_makeMap Try.prog
  have hsf : ∀ (a : Addr) (m : Mode) (fn : Fn) (first cap : Array Value) (w : World), (store a (.func fn first cap) m).run Try.prog w = stored Try.prog w a (.func fn first cap) m := fun a m fn first cap w => run_store Try.prog w a _ m rfl
  obtain ⟨fa, fc, rfl, _⟩ := row_nil_len hrow
  obtain ⟨hb4, hB⟩ := below_laid w b fl caps
  have c4 := cell_at (j := 0) hb4 rfl
  have f4 := frozen_at 0 hb4
  have HWM := Lib.hid (hB.walkM (enc := enc) hk hs hd)
  have HUP := Lib.hid hB.up
  have HROW := Lib.hid hrow
  have HX := Lib.hid (And.intro hk (And.intro hs (And.intro hd (And.intro hrs hl))))
  have HWS := Lib.hid (walk_spec b (w.heap.size + 1 + 1 + 1) (w.heap.size) (w.heap.size + 1) (w.heap.size + 1 + 1 + 1 + 1) (w.heap.size + 1 + 1) sb fl caps ty enc step K T q hen enters_walk hCb (K.vars + 1) 0 (by omega))
  clear hb4 hB hrow hk hs hd hrs hl hCb hen
  go_enter Try.func46, Try.ntmps46
  go_wp2_with fail
  go_loopg [14] rs.length (fun g s14 wr => ∃ (i : Nat) (N : List Nat) (D : DM), rs.length - i = g ∧ i ≤ rs.length ∧ s14 = .int .i64 i ∧ WalkL K [] (rs.take i) N ∧ SeenOk N D ∧ WalkM wr b (w.heap.size + 1 + 1 + 1) (w.heap.size) (w.heap.size + 1) (w.heap.size + 1 + 1 + 1 + 1) (w.heap.size + 1 + 1) sb fl caps ty enc K T q D (N.foldl (fun s x => step s (K.vof x)) s) ∧ Upd [w.heap.size + 1 + 1, sb] (((((((((w.alloc (.cells #[.pointer (some ⟨b, 0, none⟩)] 38 (0, 0)))).alloc (.cells #[.func (Fn.func fl) #[] caps] 91 (0, 0)))).alloc (.map #[] 0))).alloc (.cells #[.map (some (w.heap.size + 1 + 1))] 51 (0, 0)))).alloc (.cells #[(.func (Fn.func 62) #[] #[.pointer (some ⟨w.heap.size + 1 + 1 + 1, 0, none⟩), .pointer (some ⟨w.heap.size, 0, none⟩), .pointer (some ⟨w.heap.size + 1, 0, none⟩), .pointer (some ⟨w.heap.size + 1 + 1 + 1 + 1, 0, none⟩)])] 115 (0, 0))) wr)
  case atStart => exact ⟨0, [], .map [], by omega, by omega, rfl, WalkL.nil _, SeenOk.nil, HWM.out, Upd.refl _ _⟩
  case round =>
    obtain ⟨i, N, D, rfl, hi, rfl, hL, hS, hM, hU⟩ := hrel
    have out : ∀ k, k < w.heap.size → k ≠ sb → wr.heap[k]? = w.heap[k]? := fun k hk hn => by
      rw [hU.block k (by rw [World.size_alloc, World.size_alloc, World.size_alloc, World.size_alloc, World.size_alloc]; omega) (by simp; omega), HUP.out.block k hk (by simp)]
    by_cases hlt : i < rs.length
    · obtain ⟨f, hf⟩ : ∃ f, rs[i]? = some f := ⟨_, List.getElem?_eq_getElem hlt⟩
      obtain ⟨g, rfl⟩ := row_some HROW.out (by omega)
      have hrow := row_keep HROW.out fun k hk => out k (HROW.out.lt k hk).2 (fun e => HX.out.2.2.2.1 (by rw [hk, e]))
      have cf := row_cell hrow (j := i) (u := .int .u32 f) (by simp [flatRefs, hf])
      have htk := HX.out.2.2.2.2 f (List.mem_of_getElem? hf)
      have hil : (i : Int) < (rs.length : Int) := by omega
      have cw4 := cell_at (j := 0) hM.bw rfl
      have hnd := hL.nodup (by simp)
      have HC := Lib.hid (HWS.out f N D _ wr hM hS (by simpa using hnd) htk (Nat.zero_le _))
      have HL := Lib.hid (And.intro hL (And.intro hf hU))
      clear hM hS hL hf hU hrow htk hnd out
      go_wp2_with fail
      refine HC.out.mono ?_
      rintro e w5 ⟨rfl, hQ⟩
      obtain ⟨N1, D1, hN, hS1, hM1, hu1⟩ := hQ.ex
      have HE : Hid (WalkL K [] (rs.take (i + 1)) (N ++ N1) ∧ SeenOk (N ++ N1) D1 ∧ WalkM w5 b (w.heap.size + 1 + 1 + 1) (w.heap.size) (w.heap.size + 1) (w.heap.size + 1 + 1 + 1 + 1) (w.heap.size + 1 + 1) sb fl caps ty enc K T q D1 ((N ++ N1).foldl (fun s x => step s (K.vof x)) s) ∧ Upd [w.heap.size + 1 + 1, sb] (((((((((w.alloc (.cells #[.pointer (some ⟨b, 0, none⟩)] 38 (0, 0)))).alloc (.cells #[.func (Fn.func fl) #[] caps] 91 (0, 0)))).alloc (.map #[] 0))).alloc (.cells #[.map (some (w.heap.size + 1 + 1))] 51 (0, 0)))).alloc (.cells #[(.func (Fn.func 62) #[] #[.pointer (some ⟨w.heap.size + 1 + 1 + 1, 0, none⟩), .pointer (some ⟨w.heap.size, 0, none⟩), .pointer (some ⟨w.heap.size + 1, 0, none⟩), .pointer (some ⟨w.heap.size + 1 + 1 + 1 + 1, 0, none⟩)])] 115 (0, 0))) w5) := by
        refine ⟨?_, hS1, by rw [List.foldl_append]; exact hM1, HL.out.2.2.trans hu1⟩
        rw [List.take_add_one, HL.out.2.1]
        exact HL.out.1.snoc (by simpa using hN)
      clear hQ hN hS1 hM1 hu1 HC
      go_wp2_with fail
      go_roundg (rs.length - (i + 1))
      case measure => omega
      case rel => exact ⟨i + 1, N ++ N1, D1, rfl, by omega, by simp, HE.out.1, HE.out.2.1, HE.out.2.2.1, HE.out.2.2.2⟩
    · obtain rfl : i = rs.length := by omega
      have hil : ¬ ((rs.length : Int) < (rs.length : Int)) := by omega
      have HE : Hid (BelowQ b sb ty enc step K T q rs s w wr) := by
        rw [List.take_length] at hL
        exact ⟨N, hL, hM.ker, hM.bs, (HUP.out.mono (by simp) : Upd [sb] w _).then hU fun x hx => by
          simp at hx
          rcases hx with rfl | rfl
          · right; omega
          · exact .inl (by simp)⟩
      clear hM hS hL hU out
      go_wp2_with fail
      go_end0
      exact ⟨rfl, HE.out⟩
end Go.Proofs.Ytnenhecnkidnpaa
