/- The heap: the contracts of New, Len, Push. -/
import Derived.Test.YtjgmbgdbhpfciaaHpD
namespace Go.Proofs.Ytjgmbgdbhpfciaa
open Go.RowKit Go.Maps Go.WideShapes

structure HpAt (w : World) (b : Nat) (K : List It) (F : List Nat) : Prop where
  ex : ∃ D, HpMem w b K D F ∧ MapIs D K
  ok : KOk K
  hp : Heap K

theorem HpAt.lt {w : World} {b : Nat} {K : List It} {F : List Nat} (h : HpAt w b K F) : ∀ k, k ∈ F → k < w.heap.size := by obtain ⟨D, h1, _⟩ := h.ex; exact h1.lt
theorem HpAt.upd {w w' : World} {b : Nat} {K : List It} {F S : List Nat} (h : HpAt w b K F) (u : Upd S w w') (hd : ∀ k, k ∈ F → k ∉ S) : HpAt w' b K F := by
  obtain ⟨D, h1, h2⟩ := h.ex; exact ⟨⟨D, h1.upd u hd, h2⟩, h.ok, h.hp⟩
theorem HpAt.bd {w : World} {b : Nat} {K : List It} {F : List Nat} (h : HpAt w b K F) : K.length ≤ 2147483647 := by obtain ⟨D, h1, _⟩ := h.ex; exact h1.bd

theorem newHeap_spec (w : World) : Calls Try.prog 5 #[] w fun e w' => e = .returned (.pointer (some ⟨w.heap.size, 0, none⟩)) ∧ w' = w.alloc (.cells #[.slice none 0 0, .map none] 52 (0, 0)) := by
  go_enter Try.func5, Try.ntmps5
  go_wp2
  go_ret
  exact ⟨rfl, rfl⟩

set_option maxHeartbeats 400000 in
theorem len_spec (b : Nat) (K : List It) (F : List Nat) (w : World) (h : HpAt w b K F) :
    Calls Try.prog 7 #[.pointer (some ⟨b, 0, none⟩)] w fun e w' => e = .returned (.int .i64 K.length) ∧ w = w' := by
  obtain ⟨D, hm, _⟩ := h.ex
  obtain ⟨lv, mb, h1, h2, _⟩ := hm.cells
  obtain ⟨a, c, rfl, _⟩ := row_nil_len h2
  have hc0 : w.cell? ⟨b, 0, none⟩ = some (.slice a K.length c) := cell_at h1 rfl
  clear h1 h2 hm h
  go_enter Try.func7, Try.ntmps7
  go_wp2
  go_ret
  exact ⟨rfl, rfl⟩

theorem MapIs.no {D : DM} {K : List It} (h : MapIs D K) {x : Int} (hx : ∀ a, a ∈ K → a.x ≠ x) : Maps.has D (.int .i64 x) = false := by
  cases e : Maps.has D (.int .i64 x) with
  | false => rfl
  | true =>
    obtain ⟨a, ha, hk⟩ := h.dom _ e
    simp at hk
    exact absurd hk.symm (hx a ha)

set_option maxHeartbeats 400000 in
theorem push_dup (b : Nat) (K : List It) (F : List Nat) (a : It) (k : Int) (w : World) (h : HpAt w b K F) (ha : a ∈ K) :
    Calls Try.prog 6 #[.pointer (some ⟨b, 0, none⟩), .int .i64 a.x, .int .i64 k] w fun e w' => e = .returned (.int .i64 11) ∧ w = w' := by
  obtain ⟨D, hm, hd⟩ := h.ex
  obtain ⟨lv, mb, h1, h2, h3, _⟩ := hm.cells
  have hc1 : w.cell? ⟨b, 1, none⟩ = some (.map (some mb)) := cell_at h1 rfl
  obtain ⟨j, hj⟩ := List.mem_iff_getElem?.1 ha
  have hhas := (hd.at_ j a hj).1
  have hwf := h.ok.wf a ha
  obtain ⟨v, ps, hrun, hv⟩ := h3.look_ok intKeyed Try.underlying50 (zeroInt w) (plainElem_int (H := Unit) Try.underlying3 (wf64 (n := 0) (by omega) (by omega))) (keyOf_int_mk Try.underlying3 hwf)
  rw [hhas] at hrun
  obtain ⟨c, rfl, _, _⟩ := plainElem_int_inv Try.underlying3 hv
  clear h1 h2 h3 hm h hd hj hhas hv ha hwf
  go_enter Try.func6, Try.ntmps6
  go_wp2_with fail
  go_ret
  exact ⟨rfl, rfl⟩

theorem Try.infoItem : (Try.prog.info? 55).map (fun i => (i.zero, i.size, i.bytes)) = some (some (.agg #[.int .i64 0, .int .i64 0]), 2, 16) := by kernel_rfl

theorem KOk.snoc {K : List It} (h : KOk K) {a : It} (ha : ∀ c, c ∈ K → c.x ≠ a.x) (hw : (Lit.int .i64 a.x).wf = true) : KOk (K ++ [a]) := by
  constructor
  · rw [List.map_append, List.nodup_append]
    refine ⟨h.nd, by simp, ?_⟩
    intro x hx y hy
    simp at hy; subst hy
    obtain ⟨c, hc, rfl⟩ := List.mem_map.1 hx
    exact ha c hc
  · intro c hc
    simp at hc
    rcases hc with hc | rfl
    · exact h.wf c hc
    · exact hw
theorem MapIs.snoc {D : DM} {K : List It} (h : MapIs D K) (a : It) : MapBut D (K ++ [a]) K.length := by
  refine ⟨fun k hk => ?_, fun j c hj hne => ?_⟩
  · obtain ⟨c, hc, e⟩ := h.dom k hk
    exact ⟨c, by simp [hc], e⟩
  · have := (List.getElem?_eq_some_iff.1 hj).1
    simp at this
    rw [List.getElem?_append_left (by omega)] at hj
    exact h.at_ j c hj

/-- the append's keeping -/
theorem push_mem {w w2 : World} {b mb g cap : Nat} {lv : Value} {K : List It} {a : It} {D : DM} {F : List Nat} {o : Obj}
    (h1 : w.heap[b]? = some (.cells #[lv, .map (some mb)] 52 (0, 0))) (h3 : w.ownsMap Try.prog 3 (plainElem Try.prog 3) mb (Maps.size D) D)
    (hF : F = [b, mb] ++ lv.ownBlock.toList) (hbm : b ≠ mb) (hbl : some b ≠ lv.ownBlock) (hml : some mb ≠ lv.ownBlock) (hbd : K.length + 1 ≤ 2147483647)
    (hg : (w.alloc o).grownBy w2 lv.ownBlock) (ho : w2.ownsRow 0 55 2 (.slice (some ⟨g, 0, none⟩) (K.length + 1) cap) (K.length + 1) (flatIts K ++ [.int .i64 a.x, .int .i64 a.k]))
    (hat : lv.ownBlock = some g ∨ g = w.heap.size + 1) :
    w2.cell? ⟨b, 0, none⟩ = some lv ∧ w2.frozen? ⟨b, 0, none⟩ = false ∧
    Hid (∃ F', HpMem (w2.setCell ⟨b, 0, none⟩ (.slice (some ⟨g, 0, none⟩) (K.length + 1) cap)) b (K ++ [a]) D F' ∧ Upd F w (w2.setCell ⟨b, 0, none⟩ (.slice (some ⟨g, 0, none⟩) (K.length + 1) cap)) ∧ Sub F w F' ∧ F' = [b, mb, g]) := by
  have hb := heap_lt h1
  have hm := h3.lt
  have hk : ∀ k, k < w.heap.size → some k ≠ lv.ownBlock → w2.heap[k]? = w.heap[k]? := fun k hk hn => by
    rw [hg.block k (by simp; omega) hn]; exact heap_alloc_old w _ hk
  have hb2 := (hk b hb hbl).trans h1
  have hbg : b ≠ g := by
    rcases hat with e | e
    · rintro rfl; exact hbl e.symm
    · omega
  have hmg : mb ≠ g := by
    rcases hat with e | e
    · rintro rfl; exact hml e.symm
    · omega
  refine ⟨cell_at hb2 rfl, frozen_at 0 hb2, [b, mb, g], ⟨⟨.slice (some ⟨g, 0, none⟩) (K.length + 1) cap, mb, ?_, ?_, ?_, by simp [Value.ownBlock], hbm, by simpa [Value.ownBlock] using hbg, by simpa [Value.ownBlock] using hmg⟩, by simpa using hbd⟩, ?_, ?_, rfl⟩
  · rw [heap_set_eq hb2]; rfl
  · rw [List.length_append, List.length_singleton, its_snoc]
    exact row_ne ho (by simpa [Value.ownBlock] using hbg) _
  · refine own_keep h3 ?_
    rw [heap_set_ne (Ne.symm hbm)]
    exact hk mb hm hml
  · refine Upd.setCell ?_ (by simp [hF]) _
    exact ((Upd.refl F w).alloc o).grown hg fun k hk' => .inl (by simp [hF, hk'])
  · intro k hk'
    simp at hk'
    rcases hk' with rfl | rfl | rfl
    · simp [hF]
    · simp [hF]
    · rcases hat with e | e
      · left; simp [hF, e]
      · right; omega

theorem UpPost.heap {w w' : World} {b : Nat} {a : It} {K0 : List It} {i0 : Nat} {F : List Nat} (h : UpPost w b a K0 i0 F w') (hk : KOk K0) (hb : Below1 K0 i0) : ∃ K, HpAt w' b K F ∧ K.Perm K0 := by
  obtain ⟨K, i, D, h1, h2, h3, h4, h5, h6, h7⟩ := h.ex
  exact ⟨K, ⟨⟨D, h1, h2⟩, hk.perm h3, h5.heap h6 (h7 hb)⟩, h3⟩

set_option maxHeartbeats 800000 in
theorem push_new (b : Nat) (K : List It) (F : List Nat) (a : It) (w : World) (h : HpAt w b K F) (ha : ∀ c, c ∈ K → c.x ≠ a.x) (hw : (Lit.int .i64 a.x).wf = true) (hbd : K.length + 1 ≤ 2147483647) :
    Calls Try.prog 6 #[.pointer (some ⟨b, 0, none⟩), .int .i64 a.x, .int .i64 a.k] w fun e w' => e = .returned (.int .i64 0) ∧ ∃ K' F', HpAt w' b K' F' ∧ K'.Perm (K ++ [a]) ∧ Upd F w w' ∧ Sub F w F' := by
  obtain ⟨D, hm, hd⟩ := h.ex
  obtain ⟨lv, mb, h1, h2, h3, hF, hbm, hbl, hml⟩ := hm.cells
  have hok := h.ok
  have hhp := h.hp
  have hc1 : w.cell? ⟨b, 1, none⟩ = some (.map (some mb)) := cell_at h1 rfl
  have hc0 : w.cell? ⟨b, 0, none⟩ = some lv := cell_at h1 rfl
  obtain ⟨la, lc, rfl, _⟩ := row_nil_len h2
  obtain ⟨v, ps, hrun, hv⟩ := h3.look_ok intKeyed Try.underlying50 (zeroInt w) (plainElem_int (H := Unit) Try.underlying3 (wf64 (n := 0) (by omega) (by omega))) (keyOf_int_mk Try.underlying3 hw)
  rw [hd.no ha] at hrun
  obtain ⟨c, rfl, _, _⟩ := plainElem_int_inv Try.underlying3 hv
  obtain ⟨i, hi0, hz0, hz1', hz2⟩ := info_parts Try.infoItem
  have HI := Lib.hid (And.intro hi0 (And.intro hz0 (And.intro hz1' hz2)))
  have hb := heap_lt h1
  have H1 := Lib.hid h1
  have H2 := Lib.hid h2
  have H3 := Lib.hid h3
  have HF := Lib.hid hF
  have HFl := Lib.hid hm.lt
  have HW := Lib.hid hw
  have HA := Lib.hid ha
  have HOK := Lib.hid (hok.snoc ha hw)
  have HS := Lib.hid (hhp.snoc a)
  have HD := Lib.hid (hd.snoc a)
  have HC2' : Hid (∀ u, u ∈ [Value.int .i64 a.x, .int .i64 a.k] → u.oneCell' = true) := by intro u hu; simp at hu; rcases hu with rfl | rfl <;> rfl
  have hnn : (binOp .eql 50 (.map (some mb)) (.map none)).run Try.prog w = .ok (.bool false) w := run_eql_map_nil w _ _ _ (some mb) Try.underlying50
  clear h1 h2 h3 hm h hd hv ha hw hF hok hhp hi0 hz0 hz1' hz2
  go_enter Try.func6, Try.ntmps6
  go_wp2_with (at_builtin; go_must (refine wpList_append_lies _ rfl (.tmp 34) (.tmp 38) 49 rfl 0 55 i _ 2 16 Try.underlying49 HI.out.1 HI.out.2.1 HI.out.2.2.1 HI.out.2.2.2 (by rfl) (by decide) _ K.length (flatIts K) rfl (H2.out.alloc _) ⟨w.heap.size, 0, none⟩ 1 1 [.int .i64 a.x, .int .i64 a.k] rfl rfl ?c1 HC2'.out (by omega) (by unfold maxLen; omega) (by omega) (by omega) _ rfl ?_))
  case c1 => exact World.news_of_block (heap_alloc_new w _)
  intro g cap w2 hown hgr hat hlt2
  obtain ⟨k1, k2, k3⟩ := push_mem H1.out H3.out HF.out hbm hbl hml hbd hgr hown hat
  clear hown hgr hat
  go_wp2_with fail
  obtain ⟨F', hm', hu', hs', _⟩ := k3.out
  refine (up_spec b K.length a (K ++ [a]) D F' _ hm' (by simp) HOK.out HS.out.1 HD.out).mono ?_
  rintro e w5 ⟨rfl, hp5⟩
  have HE : Hid (∃ K' F', HpAt w5 b K' F' ∧ K'.Perm (K ++ [a]) ∧ Upd F w w5 ∧ Sub F w F') := by
    obtain ⟨K', g1, g2⟩ := hp5.heap HOK.out HS.out.2
    exact ⟨K', F', g1, g2, hu'.then hp5.up hs', hs'⟩
  clear hp5 hm' hu' hs'
  go_wp2_with fail
  go_ret
  exact ⟨rfl, HE.out⟩

set_option maxHeartbeats 800000 in
theorem push_first (b : Nat) (a : It) (w : World) (h1 : w.heap[b]? = some (.cells #[.slice none 0 0, .map none] 52 (0, 0))) (hw : (Lit.int .i64 a.x).wf = true) :
    Calls Try.prog 6 #[.pointer (some ⟨b, 0, none⟩), .int .i64 a.x, .int .i64 a.k] w fun e w' => e = .returned (.int .i64 0) ∧ ∃ F', HpAt w' b [a] F' ∧ Upd [b] w w' ∧ Sub [b] w F' := by
  have hc1 : w.cell? ⟨b, 1, none⟩ = some (.map none) := cell_at h1 rfl
  have hc0 : w.cell? ⟨b, 0, none⟩ = some (.slice none 0 0) := cell_at h1 rfl
  have hz1 := frozen_at 1 h1
  have hrun := Maps.look_nil (w := w) true intKeyed Try.underlying50 (zeroInt w) (keyOf_int_mk Try.underlying3 hw)
  simp only [if_true] at hrun
  have hnn : (binOp .eql 50 (.map none) (.map none)).run Try.prog w = .ok (.bool true) w := run_eql_map_nil w _ _ _ none Try.underlying50
  have hmm := @run_makeMap Try.prog
  have hb := heap_lt h1
  have e1 : ((w.setCell ⟨b, 1, none⟩ (.map (some w.heap.size))).alloc (.map #[] 0)).heap[b]? = some (.cells #[.slice none 0 0, .map (some w.heap.size)] 52 (0, 0)) :=
    (heap_alloc_old _ _ (by simpa [World.setCell] using hb)).trans (heap_set_eq h1 _)
  have e3 : ((w.setCell ⟨b, 1, none⟩ (.map (some w.heap.size))).alloc (.map #[] 0)).ownsMap Try.prog 3 (plainElem (H := Unit) Try.prog 3) w.heap.size (Maps.size (.map [] : DM)) (.map []) :=
    by
      have := World.ownsMap_made (w.setCell ⟨b, 1, none⟩ (.map (some w.heap.size))) Try.prog 3 (plainElem (H := Unit) Try.prog 3)
      rw [show (w.setCell ⟨b, 1, none⟩ (.map (some w.heap.size))).heap.size = w.heap.size by simp [World.setCell]] at this
      exact this
  have H1 := Lib.hid e1
  have H3 := Lib.hid e3
  have HOK : Hid (KOk [a]) := ⟨by simp, by simpa using hw⟩
  have HS : Hid (Mid [a] 0 ∧ Below1 [a] 0) := by
    have : Heap ([] : List It) := fun j hj x y hx => by simp at hx
    exact this.snoc a
  have HD : Hid (MapBut (.map [] : DM) [a] 0) := ⟨fun k hk => by simp [Maps.has] at hk, fun j c hj hne => by
    have := (List.getElem?_eq_some_iff.1 hj).1
    simp at this; omega⟩
  obtain ⟨i, hi0, hz0, hz1', hz2⟩ := info_parts Try.infoItem
  have HI := Lib.hid (And.intro hi0 (And.intro hz0 (And.intro hz1' hz2)))
  have HC2' : Hid (∀ u, u ∈ [Value.int .i64 a.x, .int .i64 a.k] → u.oneCell' = true) := by intro u hu; simp at hu; rcases hu with rfl | rfl <;> rfl
  have hbm : b ≠ w.heap.size := by omega
  clear h1 hw e1 e3 hi0 hz0 hz1' hz2
  go_enter Try.func6, Try.ntmps6
  go_wp2_with (at_builtin; go_must (refine wpList_append_lies _ rfl (.tmp 34) (.tmp 38) 49 rfl 0 55 i _ 2 16 Try.underlying49 HI.out.1 HI.out.2.1 HI.out.2.2.1 HI.out.2.2.2 (by rfl) (by decide) _ 0 [] rfl (World.ownsRow_nil _ _ _ _) ⟨w.heap.size + 1, 0, none⟩ 1 1 [.int .i64 a.x, .int .i64 a.k] rfl rfl ?c1 HC2'.out (by omega) (by unfold maxLen; omega) (by omega) (by omega) _ rfl ?_))
  case c1 =>
    have hs : ((w.setCell ⟨b, 1, none⟩ (.map (some w.heap.size))).alloc (.map #[] 0)).heap.size = w.heap.size + 1 := by simp [World.setCell]
    have := World.news_of_block (heap_alloc_new ((w.setCell ⟨b, 1, none⟩ (.map (some w.heap.size))).alloc (.map #[] 0)) (.cells #[.int .i64 a.x, .int .i64 a.k] 55 (0, 0)))
    rw [hs] at this
    exact this
  intro g cap w2 hown hgr hat hlt2
  obtain ⟨k1, k2, k3⟩ := push_mem (K := []) (F := [b, w.heap.size]) H1.out H3.out (by simp [Value.ownBlock]) hbm (by simp [Value.ownBlock]) (by simp [Value.ownBlock]) (by simp) hgr hown (by simpa [World.setCell] using hat)
  clear hown hgr hat
  go_wp2_with fail
  obtain ⟨F', hm', hu', hs', _⟩ := k3.out
  refine (up_spec b 0 a [a] _ F' _ hm' (by simp) HOK.out HS.out.1 HD.out).mono ?_
  rintro e w5 ⟨rfl, hp5⟩
  have HE : Hid (∃ F', HpAt w5 b [a] F' ∧ Upd [b] w w5 ∧ Sub [b] w F') := by
    obtain ⟨K', g1, g2⟩ := hp5.heap HOK.out HS.out.2
    have := List.perm_singleton.1 g2
    subst this
    have hsub : Sub [b] w F' := by
      intro k hk
      rcases hs' k hk with h | h
      · simp at h; rcases h with rfl | rfl
        · simp
        · right; omega
      · right; simp [World.setCell] at h; omega
    refine ⟨F', g1, ?_, hsub⟩
    have u0 : Upd [b] w ((w.setCell ⟨b, 1, none⟩ (.map (some w.heap.size))).alloc (.map #[] 0)) := ((Upd.refl [b] w).setCell (by simp) _).alloc _
    exact (u0.then hu' (by intro x hx; simp at hx; rcases hx with rfl | rfl; simp; right; omega)).then hp5.up hsub
  clear hp5 hm' hu' hs'
  go_wp2_with fail
  go_ret
  exact ⟨rfl, HE.out⟩
end Go.Proofs.Ytjgmbgdbhpfciaa
