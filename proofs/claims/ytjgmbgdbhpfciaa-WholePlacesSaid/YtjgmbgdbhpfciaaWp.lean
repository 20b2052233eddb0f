/- WholePlaces: the walk. -/
import Derived.Test.YtjgmbgdbhpfciaaWpC
import Derived.Deep.LoopGhost
import Derived.Deep.DeepCutAuto
import Derived.ProofKit
import Derived.OpenShut
namespace Go.Proofs.Ytjgmbgdbhpfciaa
open Go.RowKit

/-- A slice of integers that came in. -/
def IsRow (k : IntKind) (w : World) (a : Option Addr) (len cap : Nat) (zs : List Int) : Prop :=
  (a = none ∧ len = 0 ∧ cap = 0 ∧ zs = []) ∨
  ∃ x, a = some x ∧ len ≤ cap ∧ cap ≤ maxLen ∧ zs.length = cap ∧ (∀ i, i < zs.length → w.cell? (x.add i) = some (.int k (zs.getD i 0))) ∧ ∀ n ∈ zs, (Lit.int k n).wf = true

theorem row_in {k : IntKind} {w : World} {a : Option Addr} {len cap : Nat} {zs : List Int} (h : IsRow k w a len cap zs) {i : Nat} (hi : i < len) :
    ∃ bb off z, a = some ⟨bb, off, none⟩ ∧ bb < w.heap.size ∧ w.cell? ⟨bb, off + i, none⟩ = some (.int k z) ∧ (Lit.int k z).wf = true := by
  rcases h with ⟨_, h, _⟩ | ⟨x, rfl, h1, h2, h3, h4, h5⟩
  · omega
  · obtain ⟨bb, off, rfl, hc⟩ := ints_at h4 (by omega)
    have := hc i (by omega)
    exact ⟨bb, off, _, rfl, World.block_lt_of_cell? w _ this, this, h5 _ (by rw [List.getD_eq_getElem?_getD, List.getElem?_eq_getElem (by omega)]; simp)⟩

def PlRel (w : World) (n len : Nat) (s6 s8 s9 s10 : Value) (g : Nat) (wr : World) : Prop :=
  ∃ i b R V A F, i ≤ len ∧ g = len - i ∧ s10 = .int .i64 (i : Nat) ∧ s6 = .pointer (some ⟨b, 0, none⟩) ∧ PlW w wr s8 s9 b R V A F ∧ PlInv n R V A

def PlCut (w : World) (n b : Nat) (s8 s9 : Value) (wc : World) : Prop := ∃ R V A F, PlW w wc s8 s9 b R V A F ∧ PlInv n R V A

structure PlCells (w : World) (g8 g9 j m r q : Nat) (u v : Int) : Prop where
  c8j : w.cell? ⟨g8, j, none⟩ = some (.int .u32 r)
  c8m : w.cell? ⟨g8, m, none⟩ = some (.int .u32 q)
  c9j : w.cell? ⟨g9, j, none⟩ = some (.int .i64 v)
  c9m : w.cell? ⟨g9, m, none⟩ = some (.int .i64 u)
  f8 : w.frozen? ⟨g8, j, none⟩ = false
  f9 : w.frozen? ⟨g9, j, none⟩ = false

theorem pl_cells {w : World} {g8 c8 g9 c9 j m r q b : Nat} {u v : Int} {R : List Nat} {V : List Int} (hr : R[j]? = some r) (hq : R[m]? = some q) (hv : V[j]? = some v) (hu : V[m]? = some u) :
    ∀ w5 A5 F5, PlW w w5 (.slice (some ⟨g8, 0, none⟩) R.length c8) (.slice (some ⟨g9, 0, none⟩) V.length c9) b R V A5 F5 → PlCells w5 g8 g9 j m r q u v := fun w5 A5 F5 h =>
  ⟨row_cell h.r8 (by simp [flatRefs, hr]), row_cell h.r8 (by simp [flatRefs, hq]), row_cell h.r9 (by simp [flatInts, hv]), row_cell h.r9 (by simp [flatInts, hu]), row_frozen h.r8 _, row_frozen h.r9 _⟩

theorem wp_start {w wa : World} {n b : Nat} {F : List Nat} (h : ArenaAt wa b (ArenaV.new n) F) (hu : Upd [] w wa) (hs : Sub [] w F) : PlW w wa (.slice none 0 0) (.slice none 0 0) b [] [] (ArenaV.new n) F :=
  ⟨h, World.ownsRow_nil _ _ _ _, World.ownsRow_nil _ _ _ _, by simp [Value.ownBlock], by simp [Value.ownBlock], by simp [Value.ownBlock], fun k hk => by simpa using hs k hk, hu⟩

set_option maxRecDepth 100000 in
set_option maxHeartbeats 1000000 in
theorem wp_walk (a0 : Int) (a1 : Option Addr) (len1 cap1 : Nat) (z1 : List Int) (w : World) (w0 : (Lit.int .u8 a0).wf = true) (w1 : IsRow .i8 w a1 len1 cap1 z1) :
    Calls Try.prog 4 #[.int .u8 a0, .slice a1 len1 cap1] w fun e w' => e = .returned (.bool true) ∧ Upd [] w w' := by
  have hb0 := bounds_u8 w0
  have hq := Int.emod_nonneg a0 (b := 40) (by omega)
  have hq' := Int.emod_lt_of_pos a0 (b := 40) (by omega)
  obtain ⟨n, hn⟩ : ∃ n : Nat, 3 + a0 % 40 = n := ⟨(3 + a0 % 40).toNat, by omega⟩
  have hn2 : 3 ≤ n := by omega
  have hn3 : n ≤ 43 := by omega
  have HN := Lib.hid hn; clear hn
  have hl1 : len1 ≤ maxLen := by rcases w1 with ⟨_, h, _⟩ | ⟨x, _, h, h2, _⟩ <;> omega
  unfold maxLen at hl1
  have HR := Lib.hid w1; clear w1 
  go_enter Try.func4, Try.ntmps4
  go_wp2_with fail
  rw [HN.out]
  refine (new_spec n w (by omega) (by omega)).mono ?_
  rintro e wa ⟨b, F, rfl, har, hua, hsub⟩
  have HA := Lib.hid har
  clear har
  have hnn : ((n : Int) != (n : Int)) = false := by simp
  go_wp2_with fail
  refine (used_spec b F _ _ HA.out).mono ?_
  rintro e w' ⟨rfl, rfl⟩
  rw [show (ArenaV.new n).used = 2 from rfl]
  go_wp2_with fail
  refine (places_spec b F _ _ HA.out).mono ?_
  rintro e w' ⟨rfl, rfl⟩
  rw [show (ArenaV.new n).places = n from rfl]
  go_wp2_with fail
  go_loopg [8, 9, 10] len1 (fun g s8 s9 s10 wr => PlRel w n len1 (.pointer (some ⟨b, 0, none⟩)) s8 s9 s10 g wr)
  case atStart => exact ⟨0, b, [], [], ArenaV.new n, F, by omega, by omega, rfl, rfl, wp_start HA.out hua hsub, PlInv.new⟩
  case round =>
    obtain ⟨i, b', R, V, A, F', hi, rfl, rfl, hb', hW, hI⟩ := hrel
    simp only [Value.pointer.injEq, Option.some.injEq, Addr.mk.injEq, and_true] at hb'
    subst hb'
    by_cases hlt : i < len1
    · obtain ⟨bb, off, z, rfl, hbb, hcz, hz⟩ := row_in HR.out hlt
      have hbz := bounds_i8 hz
      have hcz : wr.cell? ⟨bb, off + i, none⟩ = some (.int .i8 z) := (hW.up.cell hbb (by simp)).trans hcz
      clear hz
      obtain ⟨a8, c8, rfl, _⟩ := row_nil_len hW.r8
      obtain ⟨a9, c9, rfl, _⟩ := row_nil_len hW.r9
      have hok := hW.ar.ok
      have hRl : R.length ≤ 1048576 := by have := hI.us; have := hok.us; have := hok.pm; have := hok.lp; omega
      have hVl := hI.len
      have HVl := Lib.hid hVl
      have HW := Lib.hid hW
      have HI := Lib.hid hI
      have HOK := Lib.hid hok
      clear hW hI hok hVl
      go_upto_if 55 with fail
      go_cut [8, 9, 11, 12, 13, 14, 15] from 45 to 199 (fun s8 s9 s11 s12 s13 s14 s15 wc => PlCut w n b s8 s9 wc)
      case first =>
        by_cases hz0 : 0 ≤ z
        · have hv1 : 0 ≤ z % 64 := by omega
          have hv2 : z % 64 < 64 := by omega
          by_cases hfull : R.length + 2 = n
          · have HC := Lib.hid (pl_full HW.out HI.out hfull (z % 64) (by omega) (by omega))
            have hfu : ((R.length : Int) + 2 == (n : Int)) = true := by simp; omega
            have HI2 := Lib.hid HI.out
            clear hfull
            go_wp2_with fail
            refine HC.out.mono ?_
            rintro e w3 ⟨rfl, hW3⟩
            have HW3 := Lib.hid hW3
            clear hW3 HC
            go_wp2_with fail
            go_roundg (len1 - (i + 1))
            case measure => omega
            case rel => exact ⟨i + 1, b, R, V, A, F', by omega, rfl, by go_num, rfl, HW3.out, HI2.out⟩
          · have HC := Lib.hid (pl_alloc HW.out HI.out hfull (z % 64) (by omega) (by omega))
            have hfu : ((R.length : Int) + 2 == (n : Int)) = false := by simp; omega
            clear hfull HW HI
            go_wp2_with fail
            refine HC.out.mono ?_
            rintro e w3 ⟨r, A2, F3, rfl, hrn, hr2, hW3, hI3⟩
            have hlr : decide ((r : Int) < 2) = false := by simp; omega
            have hlr' : decide (r < 2) = false := by simp; omega
            have HW3 := Lib.hid hW3
            have HI3 := Lib.hid hI3
            have HRN := Lib.hid hrn
            clear hW3 hI3 hrn HC
            go_wp2_with fail
            go_loopg [14] R.length (fun g s14 wr2 => ∃ k : Nat, k ≤ R.length ∧ g = R.length - k ∧ s14 = .int .i64 k ∧ w3 = wr2)
            case atStart => exact ⟨0, by omega, by omega, rfl, rfl⟩
            case round =>
              obtain ⟨k, hk, rfl, rfl, rfl⟩ := hrel
              by_cases hkl : k < R.length
              · obtain ⟨x, hx⟩ : ∃ x, R[k] = x := ⟨_, rfl⟩
                obtain ⟨g8, rfl⟩ := row_some HW3.out.r8 (by omega)
                have hc8 : w3.cell? ⟨g8, k, none⟩ = some (.int .u32 x) := row_cell HW3.out.r8 (by simp [flatRefs, List.getElem?_eq_getElem hkl, hx])
                have hne : ((x : Int) == (r : Int)) = false := by
                  have : x ≠ r := by rintro rfl; exact HRN.out (by rw [← hx]; exact List.getElem_mem hkl)
                  simp; omega
                have hne' : ¬ x = r := by rintro rfl; simp at hne
                clear hx
                go_wp2_with fail
                go_roundg (R.length - (k + 1))
                case measure => omega
                case rel => exact ⟨k + 1, by omega, rfl, by go_num, rfl⟩
              · have hd : decide (k < R.length) = false := by simpa using hkl
                have HC8 : Hid (∀ u, u ∈ [Value.int .u32 r] → u.oneCell' = true) := by intro u hu; simp at hu; subst hu; rfl
                have HC9 : Hid (∀ u, u ∈ [Value.int .i64 (z % 64)] → u.oneCell' = true) := by intro u hu; simp at hu; subst hu; rfl
                obtain ⟨i8, hi8, hz8, hs8, hb8⟩ := info_parts Try.infoRef
                obtain ⟨i9, hi9, hz9, hs9, hb9⟩ := info_parts Try.infoInt
                have HI8 := Lib.hid (And.intro hi8 (And.intro hz8 (And.intro hs8 hb8)))
                have HI9 := Lib.hid (And.intro hi9 (And.intro hz9 (And.intro hs9 hb9)))
                clear hi8 hz8 hs8 hb8 hi9 hz9 hs9 hb9
                have hVl2 : V.length ≤ 1048576 := by have := HVl.out; omega
                have hsz3 : w.heap.size ≤ w3.heap.size := HW3.out.up.size
                go_wp2_with (at_builtin; go_must (refine wpList_append_lies _ rfl (.tmp 94) (.tmp 96) 36 rfl w.heap.size 40 i8 _ 1 4 Try.underlying36 HI8.out.1 HI8.out.2.1 HI8.out.2.2.1 HI8.out.2.2.2 (by rfl) (by decide) _ R.length (flatRefs R) rfl (HW3.out.r8.alloc _) ⟨w3.heap.size, 0, none⟩ 1 1 [.int .u32 r] rfl rfl ?c1 HC8.out (by omega) (by unfold maxLen; omega) (by omega) (by simp; omega) _ rfl ?_))
                case c1 => exact World.news_of_block (heap_alloc_new w3 _)
                intro g cap w4 hown hgr hat hlt4
                have HW4 := Lib.hid (HW3.out.app8 hgr hown hat)
                have hsz4 : w.heap.size ≤ w4.heap.size := HW4.out.up.size
                clear hown hgr hat
                go_wp2_with (at_builtin; go_must (refine wpList_append_lies _ rfl (.tmp 98) (.tmp 100) 37 rfl w.heap.size 3 i9 _ 1 8 Try.underlying37 HI9.out.1 HI9.out.2.1 HI9.out.2.2.1 HI9.out.2.2.2 (by rfl) (by decide) _ V.length (flatInts V) rfl (HW4.out.r9.alloc _) ⟨w4.heap.size, 0, none⟩ 1 1 [.int .i64 (z % 64)] rfl rfl ?c2 HC9.out (by omega) (by unfold maxLen; omega) (by omega) (by simp; omega) _ rfl ?_))
                case c2 => exact World.news_of_block (heap_alloc_new w4 _)
                intro g9 cap9 w5 hown hgr hat hlt5
                have HW5 := Lib.hid (HW4.out.app9 hgr hown hat)
                clear hown hgr hat
                go_wp2_with fail
                go_meet
                case rel => exact ⟨R ++ [r], V ++ [z % 64], A2, F3, HW5.out, HI3.out⟩
        · have hzn : z < 0 := by omega
          have hzd : decide (0 ≤ z) = false := by simp; omega
          by_cases hR0 : R.length = 0
          · have hRd : decide (0 < R.length) = false := by rw [hR0]; rfl
            have HR0 := Lib.hid hR0
            clear hR0
            go_wp2_with fail
            go_meet
            case rel => exact ⟨R, V, A, F', HW.out, HI.out⟩
          · obtain ⟨m, hm⟩ : ∃ m, R.length = m + 1 := ⟨R.length - 1, by omega⟩
            have hmb : m ≤ 1048576 := by omega
            have hVm : V.length = m + 1 := by have := HVl.out; omega
            have hn1' := Int.emod_nonneg (-z) (b := ((m : Int) + 1)) (by omega)
            have hn2' := Int.emod_lt_of_pos (-z) (b := ((m : Int) + 1)) (by omega)
            obtain ⟨j, hj⟩ : ∃ j : Nat, (-z) % ((m : Int) + 1) = j := ⟨_, (Int.toNat_of_nonneg hn1').symm⟩
            have hjm : j < m + 1 := by rw [hj] at hn2'; omega
            rw [← Int.tmod_eq_emod_of_nonneg (by omega), Int.neg_tmod] at hj
            clear hn1' hn2' hR0
            obtain ⟨r, hr⟩ : ∃ r, R[j]? = some r := ⟨_, List.getElem?_eq_getElem (by omega)⟩
            obtain ⟨q, hq⟩ : ∃ q, R[m]? = some q := ⟨_, List.getElem?_eq_getElem (by omega)⟩
            obtain ⟨v, hv⟩ : ∃ v, V[j]? = some v := ⟨_, List.getElem?_eq_getElem (by omega)⟩
            obtain ⟨u, hu⟩ : ∃ u, V[m]? = some u := ⟨_, List.getElem?_eq_getElem (by omega)⟩
            obtain ⟨g8, rfl⟩ := row_some HW.out.r8 (by omega)
            obtain ⟨g9, rfl⟩ := row_some HW.out.r9 (by omega)
            have HCELL : Hid (∀ w5 A5 F5, PlW w w5 (.slice (some ⟨g8, 0, none⟩) R.length c8) (.slice (some ⟨g9, 0, none⟩) V.length c9) b R V A5 F5 → PlCells w5 g8 g9 j m r q u v) := pl_cells hr hq hv hu
            have hcm8 : m ≤ c8 := by have := (row_block HW.out.r8).2.1; omega
            have hcm9 : m ≤ c9 := by have := (row_block HW.out.r9).2.1; omega
            have h89 : ¬ g8 = g9 := by have := HW.out.d89 g8 rfl; simp [Value.ownBlock] at this; exact fun e => this e.symm
            have h98 : ¬ g9 = g8 := fun e => h89 e.symm
            have hr32 : r ≤ 4294967295 := by
              obtain ⟨_, _, hp, _⟩ := HI.out.at_ j r hr
              have := (List.getElem?_eq_some_iff.1 hp).1; have := HOK.out.lp; have := HOK.out.pm; omega
            obtain ⟨hd1, hd2, hd3⟩ := HI.out.drop (j := j) (r := r) (q := q) (u := u) hr (by rw [hm]; exact hq) (by rw [hVm]; exact hu)
            have HD := Lib.hid hd3
            have HM := Lib.hid (List.mem_of_getElem? hr)
            have hx1 := (HCELL.out wr A F' HW.out).c8j
            have HLen := Lib.hid (And.intro hm hVm)
            clear hd1 hd2 hd3 hr hq hv hu
            go_wp2_with fail
            refine (pl_free HW.out HI.out HM.out).mono ?_
            rintro e w3 ⟨rfl, hus, F3, hW3⟩
            have hx3 := (HCELL.out w3 _ F3 hW3).c8j
            have HW3 := Lib.hid hW3
            have HI3 := Lib.hid (HD.out hus)
            clear hW3 hx1 hus
            go_wp2_with fail
            refine (pl_again HW3.out hr32).mono ?_
            rintro e w4 ⟨rfl, rfl⟩
            obtain ⟨k1, k2, k3, k4, k5, k6⟩ := HCELL.out w3 _ F3 HW3.out
            go_wp2_with fail
            go_meet
            case rel => exact ⟨unplug R j q, unplug V j u, A.drop r, F3, HW3.out.unplug' HVl.out HLen.out.1 hjm, HI3.out⟩
      case rest =>
        obtain ⟨R', V', A', F2, hW, hI⟩ := hcut
        obtain ⟨a8', c8', rfl, _⟩ := row_nil_len hW.r8
        obtain ⟨a9', c9', rfl, _⟩ := row_nil_len hW.r9
        have hRl' : R'.length ≤ 1048576 := by have := hI.us; have := hW.ar.ok.us; have := hW.ar.ok.pm; have := hW.ar.ok.lp; omega
        have huse : ((A'.used : Int) != (R'.length : Int) + 2) = false := by have := hI.us; simp; omega
        have hVl' := Lib.hid hI.len
        have HW' := Lib.hid hW
        have HI' := Lib.hid hI
        clear hW hI
        go_wp2_with fail
        refine (used_spec b _ _ _ HW'.out.ar).mono ?_
        rintro e w' ⟨rfl, rfl⟩
        go_wp2_with fail
        go_loopg [16] R'.length (fun g s16 wr2 => ∃ k : Nat, k ≤ R'.length ∧ g = R'.length - k ∧ s16 = .int .i64 k ∧ PlW w wr2 (.slice a8' R'.length c8') (.slice a9' V'.length c9') b R' V' A' F2)
        case atStart => exact ⟨0, by omega, by omega, rfl, HW'.out⟩
        case round =>
          obtain ⟨k, hk, rfl, rfl, hW⟩ := hrel
          by_cases hkl : k < R'.length
          · obtain ⟨v, hv, hp, _⟩ := HI'.out.at_ k R'[k] (List.getElem?_eq_getElem hkl)
            obtain ⟨r, hr⟩ : ∃ r, R'[k] = r := ⟨_, rfl⟩
            rw [hr] at hp
            obtain ⟨g8, rfl⟩ := row_some hW.r8 (by omega)
            obtain ⟨g9, rfl⟩ := row_some hW.r9 (by have := hVl'.out; omega)
            have hc8 : wr.cell? ⟨g8, k, none⟩ = some (.int .u32 r) := row_cell hW.r8 (by simp [flatRefs, List.getElem?_eq_getElem hkl, hr])
            have hc9 : wr.cell? ⟨g9, k, none⟩ = some (.int .i64 v) := row_cell hW.r9 (by simp [flatInts, hv])
            have hb9 : g9 < wr.heap.size := (hW.r9.lt _ rfl).2
            have hlt32 : r ≤ 4294967295 := by have := (List.getElem?_eq_some_iff.1 hp).1; have := hW.ar.ok.lp; have := hW.ar.ok.pm; omega
            have HG := Lib.hid (get_yes b _ r A' _ wr hW.ar hlt32 hp rfl)
            have HW2 := Lib.hid hW
            have hkv : k < V'.length := by have := hVl'.out; omega
            clear hW hv hp hr
            go_wp2_with fail
            refine HG.out.mono ?_
            rintro e w3 ⟨rfl, hu3⟩
            have hc9' : w3.cell? ⟨g9, k, none⟩ = some (.int .i64 v) := (hu3.cell hb9 (by simp)).trans hc9
            have hb9' : g9 < w3.heap.size := by have := hu3.size; omega
            have HU3 := Lib.hid hu3
            clear hu3 hc9 hc8 HG
            go_wp2_with fail
            go_quiet (fail)
            go_wp2_with fail
            go_roundg (R'.length - (k + 1))
            case measure => omega
            case rel => exact ⟨k + 1, by omega, rfl, by go_num, HW2.out.upd ((HU3.out.alloc _).drewN _)⟩
          · have hd : decide (k < R'.length) = false := by simpa using hkl
            have HW2 := Lib.hid hW
            clear hW
            go_wp2_with fail
            go_roundg (len1 - (i + 1))
            case measure => omega
            case rel => exact ⟨i + 1, b, R', V', A', F2, by omega, rfl, rfl, rfl, HW2.out, HI'.out⟩
    · have hd : decide (i < len1) = false := by simpa using hlt
      have hU := hW.up
      clear hW hI
      go_wp2_with fail
      go_ret
      exact ⟨rfl, hU⟩
end Go.Proofs.Ytjgmbgdbhpfciaa
