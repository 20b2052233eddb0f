/- The contracts of perm.Identity and unique.New. -/
import Derived.Test.YtnenhecnkidnpaaTab
import Derived.Deep.LoopGhost
namespace Go.Proofs.Ytnenhecnkidnpaa
open Go.RowKit Go.Maps Go.ChangeMaps Go.WideShapes

def flatN (l : List Nat) : List Value := l.map fun (n : Nat) => Value.int .i64 n

theorem Try.infoIntI : (Try.prog.info? 3).map (fun i => (i.zero, i.size, i.bytes)) = some (some (.int .i64 0), 1, 8) := by kernel_rfl
theorem Try.infoMap : (Try.prog.info? 96).map (fun i => (i.zero, i.size, i.bytes)) = some (some (.map none), 1, 8) := by kernel_rfl

def idRow (n i : Nat) : List Value := flatN (List.range i) ++ List.replicate (n - i) (.int .i64 0)

theorem idRow_set {n i : Nat} (h : i < n) : (idRow n i).set i (.int .i64 i) = idRow n (i + 1) := by
  unfold idRow flatN
  rw [List.set_append_right _ _ (by simp)]
  simp only [List.length_map, List.length_range, Nat.sub_self, List.range_succ, List.map_append, List.append_assoc]
  congr 1
  rw [show n - i = (n - (i + 1)) + 1 by omega, List.replicate_succ]
  rfl

theorem idRow_zero (n : Nat) : (madeCells #[Value.int .i64 0] n).toList = idRow n 0 := by
  apply List.ext_getElem?
  intro i
  by_cases hi : i < n
  · simp [idRow, flatN, madeCells, hi, Nat.mod_one]
  · simp [idRow, flatN, madeCells, hi]

set_option maxRecDepth 100000 in
set_option maxHeartbeats 400000 in
theorem identity_spec (n : Nat) (w : World) (hn : n ≤ 1048576) :
    Calls Try.prog 48 #[.int .i64 n] w fun e w' => ∃ g, e = .returned (.slice (some ⟨g, 0, none⟩) n n) ∧ w'.ownsRow w.heap.size 3 1 (.slice (some ⟨g, 0, none⟩) n n) n (flatN (List.range n)) ∧ Upd [] w w' := by
  obtain ⟨i2, hi2, hz2, hs2, hb2⟩ := info_parts Try.infoIntI
  have HI := Lib.hid (And.intro hi2 (And.intro hz2 (And.intro hs2 hb2)))
  clear hi2 hz2 hs2 hb2
  go_enter Try.func48, Try.ntmps48
  go_wp2_with (refine wpList_make_full _ rfl (.tmp 5) (.tmp 5) 22 rfl w.heap.size 3 i2 (.int .i64 0) 1 Try.underlying22 HI.out.1 HI.out.2.1 HI.out.2.2.1 .i64 .i64 _ _ n rfl rfl rfl rfl (by rw [HI.out.2.2.2]; omega) (by unfold maxLen; omega) (Nat.le_refl _) ?_)
  obtain ⟨g, hg⟩ : ∃ g, w.heap.size = g := ⟨_, rfl⟩
  rw [hg]
  intro w1 ho hgr
  have HO : Hid (w1.ownsRow g 3 1 (.slice (some ⟨g, 0, none⟩) n n) n (idRow n 0)) := by rw [← idRow_zero]; exact ho
  have HU : Hid (Upd [] w w1) := (Upd.refl [] w).grown hgr (by simp)
  have HG := Lib.hid hg
  clear ho hgr hg
  go_wp2_with fail
  go_loopg [8] n (fun g2 s8 wr => ∃ i : Nat, n - i = g2 ∧ i ≤ n ∧ s8 = .int .i64 i ∧ wr.ownsRow g 3 1 (.slice (some ⟨g, 0, none⟩) n n) n (idRow n i) ∧ Upd [] w wr)
  case atStart => exact ⟨0, by omega, by omega, rfl, HO.out, HU.out⟩
  case round =>
    obtain ⟨i, rfl, hin, rfl, ho, hu⟩ := hrel
    by_cases hlt : i < n
    · have hc : wr.cell? ⟨g, i, none⟩ = some (.int .i64 0) := row_cell ho (by rw [idRow, List.getElem?_append_right (by simp [flatN])]; simp [flatN, List.getElem?_replicate]; omega)
      have hf := row_frozen ho i
      have HS : Hid ((wr.setCell ⟨g, i, none⟩ (.int .i64 i)).ownsRow g 3 1 (.slice (some ⟨g, 0, none⟩) n n) n (idRow n (i + 1))) := by
        rw [← idRow_set hlt]; exact row_set ho (by omega) _
      have HU2 : Hid (Upd [] w (wr.setCell ⟨g, i, none⟩ (.int .i64 i))) := hu.setCell (.inr (by rw [HG.out]; exact Nat.le_refl _)) _
      clear ho hu
      go_wp2_with fail
      go_roundg (n - (i + 1))
      case measure => omega
      case rel => exact ⟨i + 1, rfl, by omega, by go_num, HS.out, HU2.out⟩
    · have hd : decide (i < n) = false := by simpa using hlt
      have hi : i = n := by omega
      have HE : Hid (wr.ownsRow w.heap.size 3 1 (.slice (some ⟨g, 0, none⟩) n n) n (flatN (List.range n)) ∧ Upd [] w wr) := by
        subst hi
        rw [HG.out]
        refine ⟨?_, hu⟩
        have : idRow i i = flatN (List.range i) := by simp [idRow]
        rw [← this]; exact ho
      clear ho hu hi
      go_wp2_with fail
      go_ret
      exact ⟨g, rfl, HE.out⟩

set_option maxRecDepth 100000 in
set_option maxHeartbeats 400000 in
theorem ident_ok (n : Nat) (w : World) (hn : n ≤ 64) :
    Calls Try.prog 30 #[.int .i64 n] w fun e w' => ∃ g, e = .returned (.tuple #[.slice (some ⟨g, 0, none⟩) n n, .int .i64 0]) ∧ w'.ownsRow w.heap.size 3 1 (.slice (some ⟨g, 0, none⟩) n n) n (flatN (List.range n)) ∧ Upd [] w w' := by
  have hd1 : decide ((n : Int) < 0) = false := by simp
  have hd2 : decide ((64 : Int) < (n : Int)) = false := by simp; omega
  have hd3 : decide (64 < n) = false := by simp; omega
  go_enter Try.func30, Try.ntmps30
  go_wp2_with fail
  refine (identity_spec n w (by omega)).mono ?_
  rintro e w1 ⟨g, rfl, ho, hu⟩
  have HO := Lib.hid (And.intro ho hu)
  clear ho hu
  go_wp2_with fail
  go_ret2
  exact ⟨g, rfl, HO.out⟩

structure NtRel (w : World) (n tb g i : Nat) (wr : World) : Prop where
  ex : ∃ mbs : List Nat, mbs.length = i ∧ wr.heap[tb]? = some (.cells #[.slice (some ⟨g, 0, none⟩) n n] 95 (0, 0)) ∧
    wr.ownsRow w.heap.size 96 1 (.slice (some ⟨g, 0, none⟩) n n) n (mbs.map (fun m => Value.map (some m)) ++ List.replicate (n - i) (.map none)) ∧
    (∀ (j m : Nat), mbs[j]? = some m → wr.heap[m]? = some (.map #[] 0) ∧ w.heap.size ≤ m ∧ m ≠ g ∧ m ≠ tb) ∧ mbs.Nodup ∧ tb ≠ g ∧ w.heap.size ≤ tb ∧ w.heap.size ≤ g ∧ i ≤ n
  up : Upd [] w wr

theorem NtRel.step {w wr : World} {n tb g i : Nat} (h : NtRel w n tb g i wr) (hi : i < n) :
    wr.cell? ⟨tb, 0, none⟩ = some (.slice (some ⟨g, 0, none⟩) n n) ∧ wr.cell? ⟨g, i, none⟩ = some (.map none) ∧ wr.frozen? ⟨g, i, none⟩ = false ∧
    Hid (NtRel w n tb g (i + 1) ((wr.setCell ⟨g, i, none⟩ (.map (some wr.heap.size))).alloc (.map #[] 0))) := by
  obtain ⟨mbs, h1, h2, h3, h4, h5, h6, h7, h8, h9⟩ := h.ex
  have hsz := h.up.size
  have htl := heap_lt h2
  have hgl := (h3.lt g rfl).2
  refine ⟨cell_at h2 rfl, row_cell h3 (by rw [List.getElem?_append_right (by simp; omega)]; simp [h1, List.getElem?_replicate]; omega), row_frozen h3 _, ⟨mbs ++ [wr.heap.size], by simp [h1], ?_, ?_, ?_, ?_, h6, h7, h8, by omega⟩, ?_⟩
  · rw [heap_alloc_old _ _ (by simpa [World.setCell] using htl), heap_set_ne h6]; exact h2
  · have r := (row_set h3 (j := i) (by omega) (.map (some wr.heap.size))).alloc (.map #[] 0)
    have e : (mbs.map (fun m => Value.map (some m)) ++ List.replicate (n - i) (Value.map none)).set i (.map (some wr.heap.size)) = (mbs ++ [wr.heap.size]).map (fun m => Value.map (some m)) ++ List.replicate (n - (i + 1)) (Value.map none) := by
      rw [List.set_append_right _ _ (by simp; omega)]
      simp only [List.length_map, h1, Nat.sub_self, List.map_append, List.append_assoc]
      congr 1
      rw [show n - i = (n - (i + 1)) + 1 by omega, List.replicate_succ]
      rfl
    rw [← e]; exact r
  · intro j m hj
    rw [List.getElem?_append] at hj
    split at hj
    · obtain ⟨g1, g2, g3, g4⟩ := h4 j m hj
      refine ⟨?_, g2, g3, g4⟩
      rw [heap_alloc_old _ _ (by simpa [World.setCell] using heap_lt g1), heap_set_ne g3]; exact g1
    · simp only [List.getElem?_singleton] at hj
      split at hj
      · cases hj
        refine ⟨?_, hsz, by omega, by omega⟩
        have := heap_alloc_new (wr.setCell ⟨g, i, none⟩ (.map (some wr.heap.size))) (.map #[] 0)
        rw [show (wr.setCell ⟨g, i, none⟩ (.map (some wr.heap.size))).heap.size = wr.heap.size by simp [World.setCell]] at this
        exact this
      · cases hj
  · rw [List.nodup_append]
    refine ⟨h5, by simp, ?_⟩
    intro a ha b hb
    simp at hb; subst hb
    obtain ⟨j, hj⟩ := List.mem_iff_getElem?.1 ha
    have := heap_lt (h4 j a hj).1
    omega
  · exact (h.up.setCell (.inr h8) _).alloc _

theorem NtRel.done {w wr : World} {n tb g : Nat} (h : NtRel w n tb g n wr) (hn : n ≤ 64) : ∃ F, TabAt wr tb (List.replicate n (.map [])) F ∧ Sub [] w F := by
  obtain ⟨mbs, h1, h2, h3, h4, h5, h6, h7, h8, h9⟩ := h.ex
  refine ⟨tb :: g :: mbs, ⟨⟨g, n, mbs, by simpa using h2, ?_, by simpa using h1, ?_, rfl, h6, h5, ?_, ?_⟩, by simpa using hn⟩, ?_⟩
  · have := row_base h3 (Nat.zero_le _)
    simpa using this
  · intro v D m hD hm
    have hD' : D = .map [] := by
      have := List.mem_of_getElem? hD
      exact (List.mem_replicate.1 this).2
    subst hD'
    have hb := (h4 v m hm).1
    have e : (World.mk wr.heap wr.tape wr.drawn wr.os wr.output) = wr := rfl
    refine ⟨#[], 0, hb, ?_, Nat.zero_le _, rfl⟩
    obtain ⟨es, clock, q1, q2, q3, q4⟩ := World.ownsMap_made wr Try.prog 55 (plainElem (H := Unit) Try.prog 27)
    rw [heap_alloc_new] at q1
    cases q1
    exact q2
  · intro hm
    obtain ⟨j, hj⟩ := List.mem_iff_getElem?.1 hm
    exact (h4 j tb hj).2.2.2 rfl
  · intro hm
    obtain ⟨j, hj⟩ := List.mem_iff_getElem?.1 hm
    exact (h4 j g hj).2.2.1 rfl
  · intro k hk
    simp at hk
    right
    rcases hk with rfl | rfl | hk
    · exact h7
    · exact h8
    · obtain ⟨j, hj⟩ := List.mem_iff_getElem?.1 hk
      exact (h4 j k hj).2.1

theorem nt_start {w w1 : World} {n g : Nat} (hn : 1 ≤ n) (hs : w.heap.size = g) (ho : w1.ownsRow g 96 1 (.slice (some ⟨g, 0, none⟩) n n) n (madeCells #[Value.map none] n).toList) (hg : w.grownBy w1 none) :
    NtRel w n w1.heap.size g 0 (w1.alloc (.cells #[.slice (some ⟨g, 0, none⟩) n n] 95 (0, 0))) := by
  have hgl := (ho.lt g rfl).2
  have hsz := hg.size
  refine ⟨⟨[], rfl, heap_alloc_new w1 _, ?_, by simp, by simp, by omega, by omega, by omega, by omega⟩, ((Upd.refl [] w).grown hg (by simp)).alloc _⟩
  have e : (madeCells #[Value.map none] n).toList = [].map (fun (m : Nat) => Value.map (some m)) ++ List.replicate (n - 0) (Value.map none) := by
    apply List.ext_getElem?
    intro i
    by_cases hi : i < n
    · simp [madeCells, hi, Nat.mod_one]
    · simp [madeCells, hi]
  rw [← e, hs]
  exact ho.alloc _

set_option maxRecDepth 100000 in
set_option maxHeartbeats 400000 in
theorem tnew_spec (n : Nat) (w : World) (h1 : 1 ≤ n) (hn : n ≤ 64) :
    Calls Try.prog 31 #[.int .i64 n] w fun e w' => ∃ tb F, e = .returned (.tuple #[.pointer (some ⟨tb, 0, none⟩), .int .i64 0]) ∧ TabAt w' tb (List.replicate n (.map [])) F ∧ Upd [] w w' ∧ Sub [] w F := by
  obtain ⟨i2, hi2, hz2, hs2, hb2⟩ := info_parts Try.infoMap
  have HI := Lib.hid (And.intro hi2 (And.intro hz2 (And.intro hs2 hb2)))
  clear hi2 hz2 hs2 hb2
  have hd1 : decide ((n : Int) < 1) = false := by simp; omega
  have hd2 : decide ((64 : Int) < (n : Int)) = false := by simp; omega
  have hd3 : decide (64 < n) = false := by simp; omega
  have hd4 : decide (n < 1) = false := by simp; omega
  have hmm := @run_makeMap Try.prog
  go_enter Try.func31, Try.ntmps31
  go_wp2_with (refine wpList_make_full _ rfl (.tmp 12) (.tmp 12) 93 rfl w.heap.size 96 i2 (.map none) 1 Try.underlying93 HI.out.1 HI.out.2.1 HI.out.2.2.1 .i64 .i64 _ _ n rfl rfl rfl rfl (by rw [HI.out.2.2.2]; omega) (by unfold maxLen; omega) (Nat.le_refl _) ?_)
  obtain ⟨g, hg⟩ : ∃ g, w.heap.size = g := ⟨_, rfl⟩
  rw [hg]
  intro w1 ho hgr
  have HS := Lib.hid (nt_start h1 hg ho hgr)
  clear ho hgr hg
  go_wp2_with fail
  go_loopg [17] n (fun g2 s17 wr => ∃ i : Nat, n - i = g2 ∧ i ≤ n ∧ s17 = .int .i64 i ∧ NtRel w n w1.heap.size g i wr)
  case atStart => exact ⟨0, by omega, by omega, rfl, HS.out⟩
  case round =>
    obtain ⟨i, rfl, hin, rfl, hR⟩ := hrel
    by_cases hlt : i < n
    · obtain ⟨c1, c2, c3, c4⟩ := hR.step hlt
      have hne : ¬ w1.heap.size = g := by obtain ⟨mbs, _, _, _, _, _, h6, _⟩ := hR.ex; exact h6
      have hgw : g < wr.heap.size := World.block_lt_of_cell? wr _ c2
      clear hR
      go_wp2_with fail
      go_roundg (n - (i + 1))
      case measure => omega
      case rel => exact ⟨i + 1, rfl, by omega, by go_num, c4.out⟩
    · have hd : decide (i < n) = false := by simpa using hlt
      have hi : i = n := by omega
      have HE : Hid ((∃ F, TabAt wr w1.heap.size (List.replicate n (.map [])) F ∧ Sub [] w F) ∧ Upd [] w wr) := by
        subst hi
        exact ⟨hR.done hn, hR.up⟩
      clear hR hi
      go_wp2_with fail
      go_ret2
      obtain ⟨⟨F, q1, q2⟩, q3⟩ := HE.out
      exact ⟨_, F, rfl, q1, q3, q2⟩
end Go.Proofs.Ytnenhecnkidnpaa
