/- Package count: live, Support. -/
import Derived.Test.YtnenhecnkidnpaaCS
namespace Go.Proofs.Ytnenhecnkidnpaa
open Go.RowKit Go.Maps Go.ChangeMaps Go.WideShapes

set_option maxRecDepth 100000 in
set_option maxHeartbeats 800000 in
theorem clive_ok (b : Nat) (K : KV) (T : List DM) (q : KPtr) (lv : Value) (rs : List Nat) (w : World) (h : KerIn w b K T q) (hrow : w.ownsRow 0 27 1 lv rs.length (flatRefs rs)) (hl : ∀ r, r ∈ rs → K.A.tk r = true) (hlen : rs.length ≤ 1099511627776) :
    Calls Try.prog 45 #[.pointer (some ⟨b, 0, none⟩), lv] w fun e w' => e = .returned (.int .i64 0) ∧ Upd [] w w' := by
  obtain ⟨fa, fc, rfl, _⟩ := row_nil_len hrow
  have HK := Lib.hid h
  have HR := Lib.hid hrow
  have HL := Lib.hid hl
  clear h hrow hl
  go_enter Try.func45, Try.ntmps45
  go_wp2_with fail
  go_loopg [13] rs.length (fun g s13 wr => ∃ i : Nat, rs.length - i = g ∧ i ≤ rs.length ∧ s13 = .int .i64 i ∧ Upd [] w wr)
  case atStart => exact ⟨0, by omega, by omega, rfl, Upd.refl _ _⟩
  case round =>
    obtain ⟨i, rfl, hi, rfl, hU⟩ := hrel
    by_cases hlt : i < rs.length
    · obtain ⟨f, hf⟩ : ∃ f, rs[i]? = some f := ⟨_, List.getElem?_eq_getElem hlt⟩
      have htk := HL.out f (List.mem_of_getElem? hf)
      obtain ⟨p, hp, hpt⟩ := ArenaV.tk_iff.1 htk
      obtain ⟨g, rfl⟩ := row_some HR.out (by omega)
      have hr := row_keep HR.out fun k hk => hU.block k (HR.out.lt k hk).2 (by simp)
      have cf := row_cell hr (j := i) (u := .int .u32 f) (by simp [flatRefs, hf])
      have hil : (i : Int) < (rs.length : Int) := by omega
      have hf32 := HK.out.ok.ref_lt htk
      have HP := Lib.hid (And.intro hp hpt)
      have HU := Lib.hid hU
      clear hU hr htk hp hpt hf
      go_wp2_with fail
      refine (nodeof_yes b f K T q p _ (HK.out.upd HU.out (by simp)).mem (by omega) HP.out.1 HP.out.2).mono ?_
      rintro e w1 ⟨rfl, hu⟩
      have HU1 := Lib.hid (HU.out.trans hu)
      clear hu
      go_wp2_with fail
      go_roundg (rs.length - (i + 1))
      case measure => omega
      case rel => exact ⟨i + 1, rfl, by omega, by simp, HU1.out.alloc _⟩
    · have hil : ¬ ((i : Int) < (rs.length : Int)) := by omega
      have HU := Lib.hid hU
      clear hU
      go_wp2_with fail
      go_ret
      exact ⟨rfl, HU.out⟩

/-- Support's post -/
structure SupQ (b : Nat) (K : KV) (T : List DM) (q : KPtr) (f : Nat) (w : World) (e : Ending) (w' : World) : Prop where
  ex : ∃ N : List Nat, WalkL K [] [f] N ∧ e = .returned (.tuple #[.int .u64 (N.foldl (fun s x => supStep s (K.vof x)) 0), .int .i64 0]) ∧ KerIn w' b K T q ∧ Upd [] w w'

set_option maxRecDepth 100000 in
set_option maxHeartbeats 800000 in
theorem support_spec (b f : Nat) (K : KV) (T : List DM) (q : KPtr) (w : World) (h : KerIn w b K T q) (hf : K.A.tk f = true) :
    Calls Try.prog 29 #[.pointer (some ⟨b, 0, none⟩), .int .u32 f] w fun e w' => SupQ b K T q f w e w' := by
  have hmf : ∀ (fn : Fn) (first cap : Array Value) (w : World), (Instr.makeFunc fn first cap).run Try.prog w = .ok (.func fn first cap) w := fun _ _ _ _ => rfl
  have HK := Lib.hid h
  have HL : Hid (∀ r, r ∈ [f] → K.A.tk r = true) := fun r hr => by
    simp only [List.mem_singleton] at hr; subst hr; exact hf
  have HROW : Hid (∀ w : World, (w.alloc (.cells #[.int .u32 f] 27 (0, 0))).ownsRow 0 27 1 (.slice (some ⟨w.heap.size, 0, none⟩) 1 1) [f].length (flatRefs [f])) := fun w =>
    World.ownsRow_lit (base := 0) (e := 27) (size := 1) w #[.int .u32 f] 1 (Nat.zero_le _) (by unfold maxLen; omega) rfl
  clear h hf
  go_enter Try.func29, Try.ntmps29
  go_wp2_with fail
  refine (clive_ok b K T q _ [f] _ (HK.out.upd ((Upd.refl [] w).alloc _) (by simp)) (HROW.out w) HL.out (by simp)).mono ?_
  rintro e w1 ⟨rfl, hu⟩
  have HU1 := Lib.hid (((Upd.refl [] w).alloc _).trans hu)
  clear hu
  go_wp2_with fail
  have hsb := heap_alloc_new w1 (.cells #[.int .u64 0] 59 (0, 0))
  have hsb2 := (heap_alloc_old (w1.alloc (.cells #[.int .u64 0] 59 (0, 0))) (.cells #[.int .u32 f] 27 (0, 0)) (heap_lt hsb)).trans hsb
  have HKA := Lib.hid (HK.out.upd ((HU1.out.alloc (.cells #[.int .u64 0] 59 (0, 0))).alloc (.cells #[.int .u32 f] 27 (0, 0))) (by simp))
  have hrow := HROW.out (w1.alloc (.cells #[.int .u64 0] 59 (0, 0)))
  rw [World.size_alloc] at hrow
  have hnq : w1.heap.size ∉ q.all b := fun hm => by
    have := HK.out.mem.lt _ hm
    have := HU1.out.size
    omega
  refine (below_spec b w1.heap.size 47 #[.pointer (some ⟨w1.heap.size, 0, none⟩)] 59 (fun s => .int .u64 s) supStep K T q _ [f] 0 _ enters_sup (cb_support w1.heap.size) HKA.out hsb2 hnq hrow (by simp [Value.ownBlock]) HL.out (by simp)).mono ?_
  rintro e w2 ⟨rfl, hQ⟩
  obtain ⟨N, hN, hk2, hs2, hu2⟩ := hQ.ex
  have x0 := cell_at (j := 0) hs2 rfl
  have HE : Hid (WalkL K [] [f] N ∧ KerIn w2 b K T q ∧ Upd [] w w2) := ⟨hN, hk2, ((HU1.out.alloc _).alloc _).then hu2 fun x hx => by
    simp at hx; subst hx; right; exact HU1.out.size⟩
  clear hQ hN hk2 hs2 hu2 hsb hsb2 hrow
  go_wp2_with fail
  go_ret2
  exact ⟨N, HE.out.1, rfl, HE.out.2.1, HE.out.2.2⟩
end Go.Proofs.Ytnenhecnkidnpaa
