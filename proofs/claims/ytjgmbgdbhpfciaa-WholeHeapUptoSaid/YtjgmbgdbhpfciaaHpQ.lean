/- The heap: the contracts of Pop and Move. -/
import Derived.Test.YtjgmbgdbhpfciaaHpO
namespace Go.Proofs.Ytjgmbgdbhpfciaa
open Go.RowKit Go.Maps Go.WideShapes

/-- delete as a step of a region that draws -/
theorem step_delete {P : Program} {w : World} {ops : Array Oper} {o : Oper} {a : Act} {K : Act → World → Prop} {Q : Exit → Act → World → Prop} {E : Prop} (hgd : o.guard = none) (m x : Operand) (t k : TypeId)
    (hop : o.op = .call { callee := .builtin .delete, args := #[m, x], argTypes := #[t, k] }) {mv xv v : Value} {w' : World} (hm : a.eval m = mv) (hx : a.eval x = xv)
    (hrun : (Builtin.delete_ #[t, k] o.type #[mv, xv]).run P w = .ok v w') (h : K (a.put o.dst v) w') :
    if Region.wanted o (yielded ops a.tmps) = true then Oper.wp P o a w K Q else E := by
  have hw : Region.wanted o (yielded ops a.tmps) = true := by simp [Region.wanted, hgd]
  rw [if_pos hw]
  unfold Oper.wp
  simp [execOp, hop, resolve, invoke, builtin, hm, hx, hrun, Result.andThen]
  exact h

set_option maxHeartbeats 400000 in
theorem pop_empty (b : Nat) (F : List Nat) (w : World) (h : HpAt w b [] F) :
    Calls Try.prog 8 #[.pointer (some ⟨b, 0, none⟩)] w fun e w' => e = .returned (.tuple #[.int .i64 0, .int .i64 0, .int .i64 10]) ∧ w = w' := by
  obtain ⟨D, hm, _⟩ := h.ex
  obtain ⟨lv, mb, h1, h2, _⟩ := hm.cells
  obtain ⟨a, c, rfl, _⟩ := row_nil_len h2
  have hc0 : w.cell? ⟨b, 0, none⟩ = some (.slice a 0 c) := cell_at h1 rfl
  clear h1 h2 hm h
  go_enter Try.func8, Try.ntmps8
  go_wp2_with fail
  go_ret3
  exact ⟨rfl, rfl⟩

theorem pop_map {D : DM} {a c : It} {t : List It} (h : MapIs D (a :: (t ++ [c]))) (hk : KOk (a :: (t ++ [c]))) (_hD : IsMap D) :
    MapBut ((D.del (.int .i64 a.x)).put (.int .i64 c.x) (.lit (.int .i64 (0 : Nat)))) (c :: t) 0 := by
  have hn := hk.nd
  simp only [List.map_cons, List.map_append, List.map_nil, List.nodup_cons, List.mem_append, List.mem_cons, List.not_mem_nil, or_false, not_or] at hn
  refine ⟨fun k hk' => ?_, fun j e hj hne => ?_⟩
  · by_cases e1 : k = .int .i64 c.x
    · exact ⟨c, by simp, e1⟩
    · rw [has_put_other e1] at hk'
      by_cases e2 : k = .int .i64 a.x
      · subst e2; rw [has_del_same] at hk'; cases hk'
      · rw [has_del_other e2] at hk'
        obtain ⟨e, he, hx⟩ := h.dom k hk'
        simp at he
        rcases he with rfl | he | rfl
        · exact absurd hx e2
        · exact ⟨e, by simp [he], hx⟩
        · exact absurd hx e1
  · obtain ⟨m, rfl⟩ : ∃ m, j = m + 1 := ⟨j - 1, by omega⟩
    simp at hj
    have hml := (List.getElem?_eq_some_iff.1 hj).1
    have hK : (a :: (t ++ [c]))[m + 1]? = some e := by simp; rw [List.getElem?_append_left hml]; exact hj
    have hm : e ∈ t := List.mem_of_getElem? hj
    have hxa : Lit.int .i64 e.x ≠ Lit.int .i64 a.x := by
      intro h'; simp at h'; exact hn.1.1 (by rw [← h']; exact List.mem_map.2 ⟨e, hm, rfl⟩)
    have hxc : Lit.int .i64 e.x ≠ Lit.int .i64 c.x := by
      intro h'; simp at h'
      have := hn.2
      rw [List.nodup_append] at this
      exact this.2.2 e.x (List.mem_map.2 ⟨e, hm, rfl⟩) c.x (by simp) h'
    obtain ⟨g1, g2⟩ := h.at_ _ _ hK
    rw [has_put_other hxc, has_del_other hxa]
    exact ⟨g1, fun z => by rw [atKey_put_other hxc, atKey_del_other hxa]; exact g2 z⟩

theorem pop_mid {a c : It} {t : List It} (h : Heap (a :: (t ++ [c]))) : Mid (c :: t) 0 := by
  refine ⟨fun j hj _ hp x y hx hy => ?_, fun j _ _ h0 => absurd h0 (by omega)⟩
  have hml := (List.getElem?_eq_some_iff.1 hy).1
  simp at hml
  have key : ∀ i, 0 < i → i ≤ t.length → (a :: (t ++ [c]))[i]? = (c :: t)[i]? := by
    intro i hi hit
    obtain ⟨m, rfl⟩ : ∃ m, i = m + 1 := ⟨i - 1, by omega⟩
    simp
    rw [List.getElem?_append_left (by omega)]
  exact h j hj x y (by rw [key _ (by omega) (by omega)]; exact hx) (by rw [key _ (by omega) (by omega)]; exact hy)

theorem pop_ok {a c : It} {t : List It} (h : KOk (a :: (t ++ [c]))) : KOk (c :: t) := by
  refine ⟨?_, fun e he => h.wf e (by simp at he ⊢; rcases he with rfl | he <;> simp_all)⟩
  have hn := h.nd
  simp only [List.map_cons, List.map_append, List.map_nil, List.nodup_cons] at hn ⊢
  have := List.perm_append_comm.nodup hn.2 (l' := [c.x] ++ t.map It.x)
  simpa using this

/-- reslice and delete -/
theorem pop_mem {w w2 : World} {b mb g cap n : Nat} {K : List It} {D' : DM} {F : List Nat} {o1 o2 : Obj}
    (h1 : w.heap[b]? = some (.cells #[.slice (some ⟨g, 0, none⟩) K.length cap, .map (some mb)] 52 (0, 0))) (h2 : w.ownsRow 0 55 2 (.slice (some ⟨g, 0, none⟩) K.length cap) K.length (flatIts K))
    (hF : F = [b, mb, g]) (hbm : b ≠ mb) (hbg : b ≠ g) (hmg : mb ≠ g) (hn : n ≤ K.length) (hbd : K.length ≤ 2147483647) (hm : mb < w.heap.size) {k : Nat}
    (hown : w2.ownsMap Try.prog 3 (plainElem Try.prog 3) mb k D')
    (ht : ((((w.setCell ⟨b, 0, none⟩ (.slice (some ⟨g, 0, none⟩) n cap)).alloc o1).alloc o2).drew).mapTurned w2 mb) :
    HpMem w2 b (K.take n) D' F ∧ Upd F w w2 ∧ w2.heap[w.heap.size]? = some o1 ∧ w2.heap[w.heap.size + 1]? = some o2 := by
  have hb := heap_lt h1
  have hg := (h2.lt g rfl).2
  have hs : (w.setCell ⟨b, 0, none⟩ (.slice (some ⟨g, 0, none⟩) n cap)).heap.size = w.heap.size := by simp [World.setCell]
  have hk : ∀ k, k < w.heap.size → k ≠ mb → w2.heap[k]? = (w.setCell ⟨b, 0, none⟩ (.slice (some ⟨g, 0, none⟩) n cap)).heap[k]? := by
    intro k hk hkm
    rw [turned_at ht hkm]
    show (((w.setCell ⟨b, 0, none⟩ (.slice (some ⟨g, 0, none⟩) n cap)).alloc o1).alloc o2).heap[k]? = _
    rw [heap_alloc_old _ _ (by simp [World.setCell]; omega), heap_alloc_old _ _ (by rw [hs]; exact hk)]
  have hu : Upd F w w2 := by
    have u0 : Upd F w ((((w.setCell ⟨b, 0, none⟩ (.slice (some ⟨g, 0, none⟩) n cap)).alloc o1).alloc o2).drew) := ((((Upd.refl F w).setCell (by simp [hF]) _).alloc _).alloc _).drew
    exact u0.then (upd_turned ht) (by intro x hx; simp at hx; subst hx; left; simp [hF])
  refine ⟨⟨⟨.slice (some ⟨g, 0, none⟩) n cap, mb, ?_, ?_, own_tight hown, by simpa [Value.ownBlock] using hF, hbm, by simpa [Value.ownBlock] using hbg, by simpa [Value.ownBlock] using hmg⟩, by simp; omega⟩, hu, ?_, ?_⟩
  · rw [hk b hb hbm, heap_set_eq h1]; rfl
  · have hl : (K.take n).length = n := by simp; omega
    have hf : flatIts (K.take n) = (flatIts K).take (n * 2) := by
      have : ∀ (K : List It) (n : Nat), flatIts (K.take n) = (flatIts K).take (n * 2) := by
        intro K
        induction K with
        | nil => intro n; simp [flatIts]
        | cons x t ih =>
          intro n
          cases n with
          | zero => simp [flatIts]
          | succ n =>
            have := ih n
            simp only [flatIts, List.take_succ_cons, List.flatMap_cons] at this ⊢
            rw [this, show (n + 1) * 2 = n * 2 + 2 by omega]
            simp
      exact this K n
    rw [hl, hf]
    refine row_keep (row_take h2 hn) ?_
    rintro k hk'; cases hk'
    rw [hk g hg (fun e => hmg e.symm), heap_set_ne (fun e => hbg e.symm)]
  · rw [turned_at ht (by omega)]
    show (((w.setCell ⟨b, 0, none⟩ (.slice (some ⟨g, 0, none⟩) n cap)).alloc o1).alloc o2).heap[w.heap.size]? = _
    rw [heap_alloc_old _ _ (by simp [World.setCell]), ← hs]
    exact heap_alloc_new _ _
  · rw [turned_at ht (by omega)]
    have := heap_alloc_new ((w.setCell ⟨b, 0, none⟩ (.slice (some ⟨g, 0, none⟩) n cap)).alloc o1) o2
    rw [World.size_alloc, hs] at this
    exact this

set_option maxHeartbeats 800000 in
theorem pop_one (b : Nat) (a : It) (F : List Nat) (w : World) (h : HpAt w b [a] F) :
    Calls Try.prog 8 #[.pointer (some ⟨b, 0, none⟩)] w fun e w' => e = .returned (.tuple #[.int .i64 a.x, .int .i64 a.k, .int .i64 0]) ∧ HpAt w' b [] F ∧ Upd F w w' := by
  obtain ⟨D, hm, hd⟩ := h.ex
  obtain ⟨lv, mb, h1, h2, h3, hF, hbm, hbl, hml⟩ := hm.cells
  obtain ⟨g, cap, rfl, _, hg⟩ := World.ownsRow.form h2 (by simp)
  simp [Value.ownBlock] at hF hbl hml
  have hcap := (row_block h2).2.1
  simp at hcap
  have hb := heap_lt h1
  have hmw := h3.lt
  have hwf := h.ok.wf a (by simp)
  have hc0 : w.cell? ⟨b, 0, none⟩ = some (.slice (some ⟨g, 0, none⟩) 1 cap) := cell_at h1 rfl
  have hc1 : w.cell? ⟨b, 1, none⟩ = some (.map (some mb)) := cell_at h1 rfl
  have hz0 := frozen_at 0 h1
  have g0 : w.cell? ⟨g, 0, none⟩ = some (.int .i64 a.x) := row_cell h2 (by simp [flatIts])
  have g1 : w.cell? ⟨g, 1, none⟩ = some (.int .i64 a.k) := row_cell h2 (by simp [flatIts])
  have e3 : ((((w.setCell ⟨b, 0, none⟩ (.slice (some ⟨g, 0, none⟩) 0 cap)).alloc (.cells #[.int .i64 a.x, .int .i64 a.k] 55 (0, 0))).alloc (.cells #[.int .i64 a.x, .int .i64 a.k] 55 (0, 0))).drew).ownsMap Try.prog 3 (plainElem Try.prog 3) mb (Maps.size D) D := by
    refine own_keep h3 ?_
    show (((w.setCell ⟨b, 0, none⟩ (.slice (some ⟨g, 0, none⟩) 0 cap)).alloc _).alloc _).heap[mb]? = _
    rw [heap_alloc_old _ _ (by simp [World.setCell]; omega), heap_alloc_old _ _ (by simpa [World.setCell] using hmw), heap_set_ne (Ne.symm hbm)]
  obtain ⟨w9, hrun, hown, hturn⟩ := e3.drop intKeyed Try.underlying50 (keyOf_int_mk Try.underlying3 hwf) 0
  obtain ⟨p1, p2, p3, p4⟩ := pop_mem (n := 0) h1 h2 hF hbm hbl hml (by simp) (by simp) hmw hown hturn
  have HRUN := Lib.hid hrun
  have x0 : w9.cell? ⟨w.heap.size, 0, none⟩ = some (.int .i64 a.x) := cell_at p3 rfl
  have x1 : w9.cell? ⟨w.heap.size, 1, none⟩ = some (.int .i64 a.k) := cell_at p3 rfl
  have HE : Hid (HpAt w9 b [] F ∧ Upd F w w9) := by
    refine ⟨⟨⟨_, p1, ⟨fun k hk => ?_, fun j c hj => by simp at hj⟩⟩, ⟨by simp, by simp⟩, fun j hj x y hx => by simp at hx⟩, p2⟩
    by_cases e2 : k = .int .i64 a.x
    · subst e2; rw [has_del_same] at hk; cases hk
    · rw [has_del_other e2] at hk
      obtain ⟨e, he, hx⟩ := hd.dom k hk
      simp at he; subst he; exact absurd hx e2
  clear h1 h2 h3 hm h hd hF e3 hown hturn p1 p2 p3 p4 hrun hwf
  go_enter Try.func8, Try.ntmps8
  go_wp2_with fail
  go_region_law (refine step_delete rfl (.tmp 51) (.tmp 53) 50 3 rfl rfl rfl HRUN.out ?_)
  all_goals
    go_wp2_with fail
    go_quiet (fail)
    go_wp2_with fail
    go_ret3
    exact ⟨rfl, HE.out.1.upd ((Upd.refl [] w9).drewN _) (by simp), HE.out.2.drewN _⟩


theorem DnPost.heap {w w' : World} {b : Nat} {K0 : List It} {F : List Nat} (h : DnPost w b K0 F w') (hk : KOk K0) : ∃ K, HpAt w' b K F ∧ K.Perm K0 := by
  obtain ⟨K, D, h1, h2, h3, h4⟩ := h.ex
  exact ⟨K, ⟨⟨D, h1, h2⟩, hk.perm h3, h4⟩, h3⟩

set_option maxHeartbeats 800000 in
theorem pop_many (b : Nat) (a c : It) (t : List It) (F : List Nat) (w : World) (h : HpAt w b (a :: (t ++ [c])) F) :
    Calls Try.prog 8 #[.pointer (some ⟨b, 0, none⟩)] w fun e w' => e = .returned (.tuple #[.int .i64 a.x, .int .i64 a.k, .int .i64 0]) ∧ ∃ K', HpAt w' b K' F ∧ K'.Perm (c :: t) ∧ Upd F w w' := by
  obtain ⟨D, hm, hd⟩ := h.ex
  obtain ⟨lv, mb, h1, h2, h3, hF, hbm, hbl, hml⟩ := hm.cells
  obtain ⟨g, cap, rfl, _, hg⟩ := World.ownsRow.form h2 (by simp)
  simp [Value.ownBlock] at hF hbl hml
  have hcap := (row_block h2).2.1
  have hbd := hm.bd
  simp at hcap hbd
  have hb := heap_lt h1
  have hmw := h3.lt
  have hwf := h.ok.wf a (by simp)
  have hwc := h.ok.wf c (by simp)
  have hc0 : w.cell? ⟨b, 0, none⟩ = some (.slice (some ⟨g, 0, none⟩) (t.length + 1 + 1) cap) := cell_at h1 (by simp)
  have hc1 : w.cell? ⟨b, 1, none⟩ = some (.map (some mb)) := cell_at h1 rfl
  have hz0 := frozen_at 0 h1
  have g0 : w.cell? ⟨g, 0, none⟩ = some (.int .i64 a.x) := row_cell h2 (by simp [flatIts])
  have g1 : w.cell? ⟨g, 1, none⟩ = some (.int .i64 a.k) := row_cell h2 (by simp [flatIts])
  have hlast : (a :: (t ++ [c]))[t.length + 1]? = some c := by simp
  have l0 : w.cell? ⟨g, (t.length + 1) * 2, none⟩ = some (.int .i64 c.x) := row_cell h2 (by rw [(its_get _ _).1, hlast]; rfl)
  have l1 : w.cell? ⟨g, (t.length + 1) * 2 + 1, none⟩ = some (.int .i64 c.k) := row_cell h2 (by rw [(its_get _ _).2, hlast]; rfl)
  have e3 : ((((w.setCell ⟨b, 0, none⟩ (.slice (some ⟨g, 0, none⟩) (t.length + 1) cap)).alloc (.cells #[.int .i64 a.x, .int .i64 a.k] 55 (0, 0))).alloc (.cells #[.int .i64 c.x, .int .i64 c.k] 55 (0, 0))).drew).ownsMap Try.prog 3 (plainElem Try.prog 3) mb (Maps.size D) D := by
    refine own_keep h3 ?_
    show (((w.setCell ⟨b, 0, none⟩ (.slice (some ⟨g, 0, none⟩) (t.length + 1) cap)).alloc _).alloc _).heap[mb]? = _
    rw [heap_alloc_old _ _ (by simp [World.setCell]; omega), heap_alloc_old _ _ (by simpa [World.setCell] using hmw), heap_set_ne (Ne.symm hbm)]
  obtain ⟨w9, hrun, hown, hturn⟩ := e3.drop intKeyed Try.underlying50 (keyOf_int_mk Try.underlying3 hwf) 0
  obtain ⟨p1, p2, p3, p4⟩ := pop_mem (n := t.length + 1) h1 h2 hF hbm hbl hml (by simp) (by simp; omega) hmw hown hturn
  have HRUN := Lib.hid hrun
  have x0 : w9.cell? ⟨w.heap.size, 0, none⟩ = some (.int .i64 a.x) := cell_at p3 rfl
  have x1 : w9.cell? ⟨w.heap.size, 1, none⟩ = some (.int .i64 a.k) := cell_at p3 rfl
  have y0 : w9.cell? ⟨w.heap.size + 1, 0, none⟩ = some (.int .i64 c.x) := cell_at p4 rfl
  have y1 : w9.cell? ⟨w.heap.size + 1, 1, none⟩ = some (.int .i64 c.k) := cell_at p4 rfl
  have ht : (a :: (t ++ [c])).take (t.length + 1) = a :: t := by simp
  rw [ht] at p1
  have HP := Lib.hid p1
  have HU := Lib.hid p2
  have HB := Lib.hid p3
  have HM := Lib.hid (pop_map hd h.ok hm.isMap)
  have HMid := Lib.hid (pop_mid h.hp)
  have HOK := Lib.hid (pop_ok h.ok)
  have HWC := Lib.hid hwc
  have hsz : Hid (Maps.size (D.del (.int .i64 a.x)) < maxLen) := by
    have h5 := size_del (h3.tidy intKeyed) (k := .int .i64 a.x)
    have h6 := (hd.but 0).size (h3.canon intKeyed) (h3.tidy intKeyed) hm.bd
    show _ < _
    omega
  have hFl := Lib.hid hm.lt
  clear h1 h2 h3 hm h hd hF e3 hown hturn p1 p2 p3 p4 hrun hwf hwc hlast ht
  go_enter Try.func8, Try.ntmps8
  go_wp2_with fail
  go_region_law (refine step_delete rfl (.tmp 51) (.tmp 53) 50 3 rfl rfl rfl HRUN.out ?_)
  all_goals
    go_wp2_with fail
    refine (put_spec b 0 c (a :: t) _ F w9 HP.out (by simp) HWC.out hsz.out).mono ?_
    rintro e w5 ⟨rfl, hm5, hu5⟩
    have x05 : w5.cell? ⟨w.heap.size, 0, none⟩ = some (.int .i64 a.x) := (hu5.cell (World.block_lt_of_cell? w9 _ x0) (fun hf => by have := hFl.out _ hf; simp at this)).trans x0
    have x15 : w5.cell? ⟨w.heap.size, 1, none⟩ = some (.int .i64 a.k) := (hu5.cell (World.block_lt_of_cell? w9 _ x1) (fun hf => by have := hFl.out _ hf; simp at this)).trans x1
    have hbl5 := World.block_lt_of_cell? w5 _ x05
    have HM5 := Lib.hid hm5
    have HU5 := Lib.hid hu5
    clear hm5 hu5 x0 x1
    go_wp2_with fail
    refine (down_spec b 0 0 rfl c (c :: t) _ F w5 HM5.out (by simp) HOK.out HMid.out (fun h => absurd h (by omega)) HM.out).mono ?_
    rintro e w6 ⟨rfl, hp6⟩
    have x06 : w6.cell? ⟨w.heap.size, 0, none⟩ = some (.int .i64 a.x) := (hp6.up.cell hbl5 (fun hf => by have := hFl.out _ hf; simp at this)).trans x05
    have x16 : w6.cell? ⟨w.heap.size, 1, none⟩ = some (.int .i64 a.k) := (hp6.up.cell hbl5 (fun hf => by have := hFl.out _ hf; simp at this)).trans x15
    have HE : Hid (∃ K', HpAt w6 b K' F ∧ K'.Perm (c :: t) ∧ Upd F w w6) := by
      obtain ⟨K', g1, g2⟩ := hp6.heap HOK.out
      exact ⟨K', g1, g2, (HU.out.trans HU5.out).trans hp6.up⟩
    clear hp6 x05 x15
    go_wp2_with fail
    go_quiet (fail)
    go_wp2_with fail
    go_ret3
    obtain ⟨K', g1, g2, g3⟩ := HE.out
    exact ⟨rfl, K', g1.upd ((Upd.refl [] w6).drewN _) (by simp), g2, g3.drewN _⟩

end Go.Proofs.Ytjgmbgdbhpfciaa
