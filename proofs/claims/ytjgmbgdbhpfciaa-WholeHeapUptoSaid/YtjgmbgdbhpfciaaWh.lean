/- WholeHeap: the walk. -/
import Derived.Test.YtjgmbgdbhpfciaaWhP
import Derived.Deep.CutBlock
namespace Go.Proofs.Ytjgmbgdbhpfciaa
open Go.RowKit Go.Maps Go.WideShapes

theorem Try.infoI64 : (Try.prog.info? 2).map (fun i => (i.zero, i.size, i.bytes)) = some (some (.int .i64 0), 1, 8) := by kernel_rfl
theorem Try.infoBool : (Try.prog.info? 4).map (fun i => (i.zero, i.size, i.bytes)) = some (some (.bool false), 1, 1) := by kernel_rfl

structure Ph1 (w : World) (b : Nat) (len i : Nat) (s9 : Value) (wr : World) : Prop where
  ex : ∃ K F N, N.length = len ∧ i ≤ len ∧ LawMem w wr b K F s9 N ∧ K.Perm (items N i)

theorem ph1_start {w wr w1 : World} {b g n : Nat} {F : List Nat} (h : HpAt wr b [] F) (hu : Upd [] w wr) (hn : ∀ k, k ∈ F → w.heap.size ≤ k) (hg : wr.grownBy w1 none)
    (ho : w1.ownsRow wr.heap.size 2 1 (.slice (some ⟨g, 0, none⟩) n n) n (madeCells #[Value.int .i64 0] n).toList) : Ph1 w b n 0 (.slice (some ⟨g, 0, none⟩) n n) w1 := by
  have hgl := (ho.lt g rfl).1
  have hb : ∀ k, k < wr.heap.size → w1.heap[k]? = wr.heap[k]? := fun k hk => hg.block k hk (by simp)
  have hsz := hu.size
  refine ⟨[], F, List.replicate n 0, by simp, by omega, ⟨?_, ?_, ?_, hn, hu.grown hg (by simp)⟩, by simp [items]⟩
  · obtain ⟨D, h1, h2⟩ := h.ex
    exact ⟨⟨D, h1.keep fun k hk => hb k (h1.lt k hk), h2⟩, h.ok, h.hp⟩
  · rw [List.length_replicate]
    have e : ints64 (List.replicate n 0) = (madeCells #[Value.int .i64 0] n).toList := by
      apply List.ext_getElem?
      intro i
      by_cases hi : i < n
      · simp [ints64, madeCells, hi, Nat.mod_one]
      · simp [ints64, madeCells, hi]
    rw [e]
    exact row_base ho (by omega)
  · intro k hk hf
    simp [Value.ownBlock] at hk; subst hk
    have := h.lt _ hf
    omega

theorem Ph1.le {w wr : World} {b len i : Nat} {s9 : Value} (h : Ph1 w b len i s9 wr) : i ≤ len := by obtain ⟨K, F, N, h1, h2, h3, h4⟩ := h.ex; exact h2

theorem Ph1.cells {w wr : World} {b len i j g c bb o : Nat} {v : Value} (h : Ph1 w b len i (.slice (some ⟨g, 0, none⟩) len c) wr) (hi : j < len) (hbb : bb < w.heap.size) (hc : w.cell? ⟨bb, o, none⟩ = some v) :
    wr.cell? ⟨bb, o, none⟩ = some v ∧ (∃ y, wr.cell? ⟨g, j, none⟩ = some (.int .i64 y)) ∧ wr.frozen? ⟨g, j, none⟩ = false := by
  obtain ⟨K, F, N, h1, h2, h3, h4⟩ := h.ex
  refine ⟨(h3.up.cell hbb (by simp)).trans hc, ⟨N[j]'(by omega), row_cell h3.r9 (by simp [ints64, List.getElem?_eq_getElem (show j < N.length by omega)])⟩, row_frozen h3.r9 _⟩

theorem Ph1.push {w wr : World} {b len i g c : Nat} (h : Ph1 w b len i (.slice (some ⟨g, 0, none⟩) len c) wr) (hi : i < len) (z : Int) (hl : len ≤ 1048576) :
    Calls Try.prog 6 #[.pointer (some ⟨b, 0, none⟩), .int .i64 i, .int .i64 z] (wr.setCell ⟨g, i, none⟩ (.int .i64 z)) fun e w' =>
      e = .returned (.int .i64 0) ∧ Ph1 w b len (i + 1) (.slice (some ⟨g, 0, none⟩) len c) w' := by
  obtain ⟨K, F, N, h1, h2, h3, h4⟩ := h.ex
  have h5 := h3.set (i := i) (v := z) (by omega)
  have hlen := h4.length_eq
  have hil : (items N i).length = i := by simp [items]
  refine (push_new b K F ⟨i, z⟩ _ h5.hp ?_ (wf64 (n := (i : Int)) (by omega) (by omega)) (by omega)).mono ?_
  · intro a ha
    obtain ⟨j, hj, rfl⟩ := items_mem.1 (h4.subset ha)
    simp; omega
  · rintro e w' ⟨rfl, K', F', g1, g2, g3, g4⟩
    refine ⟨rfl, K', F', N.set i z, by simpa using h1, by omega, h5.heap g1 g3 g4, ?_⟩
    rw [items_succ N i z (by omega)]
    exact g2.trans (List.Perm.append_right _ h4)

structure Ph2 (w : World) (b len j : Nat) (z : Int) (s9 : Value) (wr : World) : Prop where
  ex : ∃ K F N, N.length = len ∧ LawMem w wr b K F s9 N ∧ K.Perm (items (N.set j z) len)

theorem Ph1.move {w wr : World} {b len g c j : Nat} (h : Ph1 w b len len (.slice (some ⟨g, 0, none⟩) len c) wr) (hj : j < len) (z : Int) (_hl : len ≤ 1048576) :
    Calls Try.prog 9 #[.pointer (some ⟨b, 0, none⟩), .int .i64 j, .int .i64 z] wr fun e w' =>
      e = .returned (.int .i64 0) ∧ Ph2 w b len j z (.slice (some ⟨g, 0, none⟩) len c) w' := by
  obtain ⟨K, F, N, h1, h2, h3, h4⟩ := h.ex
  have hm : (⟨(j : Nat), N.getD j 0⟩ : It) ∈ K := h4.symm.subset (items_mem.2 ⟨j, hj, rfl⟩)
  obtain ⟨i, hi⟩ := List.mem_iff_getElem?.1 hm
  refine (move_spec b i j _ z K F wr h3.hp hi).mono ?_
  rintro e w' ⟨rfl, K', g1, g2, g3⟩
  refine ⟨rfl, K', F, N, h1, h3.heap g1 g3 (Sub.refl _ _), ?_⟩
  rw [items_set hj h1.symm]
  exact g2.trans (perm_set h4 hi (items_get hj))

theorem Ph2.cells {w wr : World} {b len j g c bb o : Nat} {z : Int} {v : Value} (h : Ph2 w b len j z (.slice (some ⟨g, 0, none⟩) len c) wr) (hi : j < len) (hbb : bb < w.heap.size) (hc : w.cell? ⟨bb, o, none⟩ = some v) :
    wr.cell? ⟨bb, o, none⟩ = some v ∧ (∃ y, wr.cell? ⟨g, j, none⟩ = some (.int .i64 y)) ∧ wr.frozen? ⟨g, j, none⟩ = false := by
  obtain ⟨K, F, N, h1, h3, h4⟩ := h.ex
  refine ⟨(h3.up.cell hbb (by simp)).trans hc, ⟨N[j]'(by omega), row_cell h3.r9 (by simp [ints64, List.getElem?_eq_getElem (show j < N.length by omega)])⟩, row_frozen h3.r9 _⟩

theorem Ph2.done {w wr : World} {b len j g c : Nat} {z : Int} (h : Ph2 w b len j z (.slice (some ⟨g, 0, none⟩) len c) wr) (hj : j < len) :
    Ph1 w b len len (.slice (some ⟨g, 0, none⟩) len c) (wr.setCell ⟨g, j, none⟩ (.int .i64 z)) := by
  obtain ⟨K, F, N, h1, h3, h4⟩ := h.ex
  exact ⟨K, F, N.set j z, by simpa using h1, Nat.le_refl _, h3.set (by omega), h4⟩

def bools (O : List Bool) : List Value := O.map Value.bool

structure Ph3 (w : World) (b len i : Nat) (s9 : Value) (g13 : Nat) (last : Int) (wr : World) : Prop where
  ex : ∃ K F N O, N.length = len ∧ LawMem w wr b K F s9 N ∧ O.length = len ∧ wr.ownsRow w.heap.size 4 1 (.slice (some ⟨g13, 0, none⟩) len len) len (bools O) ∧ g13 ∉ F ∧ s9.ownBlock ≠ some g13 ∧ K.length = len - i ∧
    (∀ a, a ∈ K → ∃ j : Nat, j < len ∧ a = ⟨j, N.getD j 0⟩ ∧ O[j]? = some false) ∧ (last = -1 ∨ ∃ l : Nat, l < len ∧ last = l ∧ ∀ a, a ∈ K → le ⟨l, N.getD l 0⟩ a)

theorem ph3_start {w wr w1 : World} {b len g13 : Nat} {s9 : Value} (h : Ph1 w b len len s9 wr) (hg : wr.grownBy w1 none)
    (ho : w1.ownsRow g13 4 1 (.slice (some ⟨g13, 0, none⟩) len len) len (madeCells #[Value.bool false] len).toList) (hs : wr.heap.size = g13) : Ph3 w b len 0 s9 g13 (-1) w1 := by
  obtain ⟨K, F, N, h1, h2, h3, h4⟩ := h.ex
  have hsz := h3.up.size
  have hb : ∀ k, k < wr.heap.size → w1.heap[k]? = wr.heap[k]? := fun k hk => hg.block k hk (by simp)
  have hu : Upd [] wr w1 := (Upd.refl [] wr).grown hg (by simp)
  refine ⟨K, F, N, List.replicate len false, h1, ⟨h3.hp.upd hu (by simp), row_keep h3.r9 (fun k hk => hb k (h3.r9.lt k hk).2), h3.d9, h3.nw, h3.up.trans hu⟩, by simp, ?_, ?_, ?_, ?_, ?_, .inl rfl⟩
  · have e : bools (List.replicate len false) = (madeCells #[Value.bool false] len).toList := by
      apply List.ext_getElem?
      intro i
      by_cases hi : i < len
      · simp [bools, madeCells, hi, Nat.mod_one]
      · simp [bools, madeCells, hi]
    rw [e]
    exact row_base ho (by omega)
  · intro hf; have := h3.hp.lt _ hf; omega
  · intro e; have := (h3.r9.lt _ e).2; omega
  · rw [h4.length_eq]; simp [items]
  · intro a ha
    obtain ⟨j, hj, rfl⟩ := items_mem.1 (h4.subset ha)
    exact ⟨j, hj, rfl, by simp [hj]⟩

structure Ph3m (w : World) (b len i : Nat) (g9 c9v g13 : Nat) (last : Int) (j : Nat) (v : Int) (w5 : World) : Prop where
  c13 : w5.cell? ⟨g13, j, none⟩ = some (.bool false)
  f13 : w5.frozen? ⟨g13, j, none⟩ = false
  c9 : w5.cell? ⟨g9, j, none⟩ = some (.int .i64 v)
  las : last = -1 ∨ ∃ (l : Nat) (u : Int), last = l ∧ l < len ∧ w5.cell? ⟨g9, l, none⟩ = some (.int .i64 u) ∧ (u < v ∨ u = v ∧ l ≤ j)
  next : Ph3 w b len (i + 1) (.slice (some ⟨g9, 0, none⟩) len c9v) g13 j (w5.setCell ⟨g13, j, none⟩ (.bool true))

theorem Ph3.pop {w wr : World} {b len i g9 c9v g13 : Nat} {last : Int} (h : Ph3 w b len i (.slice (some ⟨g9, 0, none⟩) len c9v) g13 last wr) (hi : i < len) :
    Calls Try.prog 8 #[.pointer (some ⟨b, 0, none⟩)] wr fun e w' =>
      ∃ (j : Nat) (v : Int), e = .returned (.tuple #[.int .i64 j, .int .i64 v, .int .i64 0]) ∧ j < len ∧ Ph3m w b len i g9 c9v g13 last j v w' := by
  obtain ⟨K, F, N, O, h1, h2, h3, h4, h5, h6, h7, h8, h9⟩ := h.ex
  refine (hp_pop b K F wr h2.hp (by omega)).mono ?_
  rintro e w5 ⟨a, K', rfl, p1, p2, p3, p4⟩
  obtain ⟨j, hj, rfl, hO⟩ := h8 a (p2.subset (by simp))
  have m5 := h2.heap p1 p4 (Sub.refl _ _)
  have r13 : w5.ownsRow w.heap.size 4 1 (.slice (some ⟨g13, 0, none⟩) len len) len (bools O) := row_keep h4 fun k hk => by
    cases hk; exact p4.block _ (h4.lt _ rfl).2 h5
  have hlen := p2.length_eq
  simp at hlen
  have hKl : K'.length = len - (i + 1) := by rw [h7] at hlen; clear h9 h8; omega
  have hg : g9 ≠ g13 := by simpa [Value.ownBlock] using h6
  have now : ∀ l : Nat, l < len → w5.cell? ⟨g9, l, none⟩ = some (.int .i64 (N.getD l 0)) := fun l hl =>
    row_cell m5.r9 (by simp [ints64, List.getElem?_eq_getElem (show l < N.length by omega)])
  refine ⟨j, _, rfl, hj, row_cell r13 (by simp [bools, hO]), row_frozen r13 _, now j hj, ?_, ?_⟩
  · rcases h9 with h9 | ⟨l, hl, e, h9⟩
    · exact .inl h9
    · refine .inr ⟨l, N.getD l 0, e, hl, now l hl, ?_⟩
      have := h9 _ (p2.subset (List.mem_cons_self ..))
      rw [le_iff] at this
      simp at this ⊢
      exact this
  · have nd : (⟨(j : Nat), N.getD j 0⟩ : It) ∉ K' ∧ ∀ c, c ∈ K' → c.x ≠ (j : Int) := by
      have hk := (h2.hp.ok.perm p2).nd
      simp only [List.map_cons, List.nodup_cons] at hk
      exact ⟨fun hm => hk.1 (List.mem_map.2 ⟨_, hm, rfl⟩), fun c hc e => hk.1 (List.mem_map.2 ⟨c, hc, e⟩)⟩
    refine ⟨K', F, N, O.set j true, h1, ⟨m5.hp.upd ((Upd.refl [g13] w5).setCell (by simp) _) (by intro k hk; simp; rintro rfl; exact h5 hk), row_ne m5.r9 (by simpa [Value.ownBlock] using Ne.symm hg) _, m5.d9, m5.nw, m5.up.setCell (.inr (h4.lt g13 rfl).1) _⟩,
      by simpa using h3, ?_, h5, h6, hKl, ?_, .inr ⟨j, hj, rfl, p3⟩⟩
    · have := row_set r13 (j := j) (by omega) (.bool true)
      simpa [bools, List.map_set] using this
    · intro c hc
      obtain ⟨l, hl, e, ho⟩ := h8 c (p2.subset (List.mem_cons_of_mem _ hc))
      refine ⟨l, hl, e, ?_⟩
      have : j ≠ l := by
        rintro rfl
        exact nd.2 c hc (by rw [e])
      rw [List.getElem?_set_ne this]; exact ho

set_option maxRecDepth 100000 in
set_option maxHeartbeats 1000000 in
theorem wh_walk (a0 : Option Addr) (len0 cap0 : Nat) (z0 : List Int) (a1 : Option Addr) (len1 cap1 : Nat) (z1 : List Int) (w : World) (w0 : IsRow .i64 w a0 len0 cap0 z0) (w1 : IsRow .i64 w a1 len1 cap1 z1)
    (hl0 : len0 ≤ 1048576) (hl1 : len1 ≤ 1048576) :
    Calls Try.prog 3 #[.slice a0 len0 cap0, .slice a1 len1 cap1] w fun e w' => e = .returned (.bool true) ∧ Upd [] w w' := by
  have HR0 := Lib.hid w0
  have HR1 := Lib.hid w1
  clear w0 w1
  obtain ⟨i2, hi2, hz2, hs2, hb2⟩ := info_parts Try.infoI64
  have HI := Lib.hid (And.intro hi2 (And.intro hz2 (And.intro hs2 hb2)))
  clear hi2 hz2 hs2 hb2
  obtain ⟨i3, hi2, hz2, hs2, hb2⟩ := info_parts Try.infoBool
  have HI3 := Lib.hid (And.intro hi2 (And.intro hz2 (And.intro hs2 hb2)))
  clear hi2 hz2 hs2 hb2
  go_enter Try.func3, Try.ntmps3
  go_wp2_with fail
  refine (newHeap_spec w).mono ?_
  rintro e wa ⟨rfl, hwa⟩
  have hbk : wa.heap[w.heap.size]? = some (.cells #[.slice none 0 0, .map none] 52 (0, 0)) := by rw [hwa]; exact heap_alloc_new w _
  have hua : Upd [] w wa := by rw [hwa]; exact (Upd.refl [] w).alloc _
  obtain ⟨b, hb⟩ : ∃ b, b = w.heap.size := ⟨_, rfl⟩
  rw [← hb] at hbk ⊢
  have HB := Lib.hid hb
  have HBK := Lib.hid hbk
  have HUA := Lib.hid hua
  clear hwa hbk hua hb
  go_wp2_with fail
  refine (push_first b ⟨-7, 0⟩ wa HBK.out (wf64 (by decide) (by decide))).mono ?_
  rintro e wb ⟨rfl, F, hb1, hb2, hb3⟩
  have HB1 := Lib.hid hb1
  have HUB := Lib.hid (HUA.out.then hb2 (by intro x hx; simp at hx; subst hx; right; rw [HB.out]; exact Nat.le_refl _))
  have HSB : Hid (∀ k, k ∈ F → w.heap.size ≤ k) := by
    intro k hk
    rcases hb3 k hk with h | h
    · simp at h; subst h; rw [HB.out]; exact Nat.le_refl _
    · have := HUA.out.size; omega
  clear hb1 hb2 hb3
  go_wp2_with fail
  refine (push_dup b _ F ⟨-7, 0⟩ 1 wb HB1.out (by simp)).mono ?_
  rintro e w' ⟨rfl, rfl⟩
  go_wp2_with fail
  refine (len_spec b _ F wb HB1.out).mono ?_
  rintro e w' ⟨rfl, rfl⟩
  rw [show ([⟨-7, 0⟩] : List It).length = 1 from rfl]
  go_wp2_with fail
  refine (pop_one b ⟨-7, 0⟩ F wb HB1.out).mono ?_
  rintro e wc ⟨rfl, hc1, hc2⟩
  have HC1 := Lib.hid hc1
  have HUC := Lib.hid (HUB.out.then hc2 fun x hx => .inr (HSB.out x hx))
  have hszc := HUC.out.size
  clear hc1 hc2
  go_wp2_with (refine wpList_make_full _ rfl (.tmp 57) (.tmp 57) 22 rfl wc.heap.size 2 i2 (.int .i64 0) 1 Try.underlying22 HI.out.1 HI.out.2.1 HI.out.2.2.1 .i64 .i64 _ _ len0 rfl rfl rfl rfl (by rw [HI.out.2.2.2]; omega) (by unfold maxLen; omega) (Nat.le_refl _) ?_)
  obtain ⟨g9, hg9⟩ : ∃ g9, wc.heap.size = g9 := ⟨_, rfl⟩
  rw [hg9]
  intro wd hod hgd
  have hg9w : w.heap.size ≤ g9 := by omega
  have HG9 := Lib.hid hg9
  clear hg9
  have HP1 := Lib.hid (ph1_start HC1.out HUC.out HSB.out hgd (by rw [HG9.out]; exact hod))
  clear hod hgd
  go_wp2_with fail
  go_loopg [10] len0 (fun g s10 wr => ∃ i : Nat, len0 - i = g ∧ s10 = .int .i64 i ∧ Ph1 w b len0 i (.slice (some ⟨g9, 0, none⟩) len0 len0) wr)
  case atStart => exact ⟨0, by omega, rfl, HP1.out⟩
  case round =>
    obtain ⟨i, rfl, rfl, hR⟩ := hrel
    have hle := hR.le
    by_cases hlt : i < len0
    · obtain ⟨bb, off, z, rfl, hbb, hcz, hz⟩ := row_in HR0.out hlt
      obtain ⟨hcz', hcn, hfz⟩ := hR.cells hlt hbb hcz
      obtain ⟨y, hcn⟩ := hcn
      have HP := Lib.hid (hR.push hlt z (by omega))
      have hne : ¬ g9 = bb := by omega
      have hne' : ¬ bb = g9 := by omega
      clear hR hz hcz
      go_wp2_with fail
      refine HP.out.mono ?_
      rintro e w5 ⟨rfl, hp5⟩
      have HP5 := Lib.hid hp5
      clear hp5
      go_wp2_with fail
      go_roundg (len0 - (i + 1))
      case measure => omega
      case rel => exact ⟨i + 1, rfl, by go_num, HP5.out⟩
    · have hd : decide (i < len0) = false := by simpa using hlt
      have hi : i = len0 := by omega
      have HR := Lib.hid (hi ▸ hR)
      clear hR hi
      go_upto_block 2 with fail
      go_cut [11, 12] from 80 to 110 (fun s11 s12 wc => Ph1 w b len0 len0 (.slice (some ⟨g9, 0, none⟩) len0 len0) wc)
      case first =>
        go_wp2_with fail
        go_loopg [11] len1 (fun g s11 wr => ∃ i : Nat, len1 - i = g ∧ i ≤ len1 ∧ s11 = .int .i64 i ∧ Ph1 w b len0 len0 (.slice (some ⟨g9, 0, none⟩) len0 len0) wr)
        case atStart => exact ⟨0, by omega, by omega, rfl, HR.out⟩
        case round =>
          obtain ⟨k, rfl, hkl, rfl, hR⟩ := hrel
          by_cases hgo : k < len1 ∧ 0 < len0
          · obtain ⟨hlt1, hpos⟩ := hgo
            obtain ⟨bb, off, z, rfl, hbb, hcz, hz⟩ := row_in HR1.out hlt1
            have hm1 := Int.emod_nonneg ((k : Int) * 7) (b := (len0 : Int)) (by omega)
            have hm2 := Int.emod_lt_of_pos ((k : Int) * 7) (b := (len0 : Int)) (by omega)
            obtain ⟨j, hj⟩ : ∃ j : Nat, (k : Int) * 7 % (len0 : Int) = j := ⟨_, (Int.toNat_of_nonneg hm1).symm⟩
            have hjl : j < len0 := by rw [hj] at hm2; omega
            have hj' : ((k : Int) * 7).tmod (len0 : Int) = j := by rw [Int.tmod_eq_emod_of_nonneg (by omega)]; exact hj
            obtain ⟨hcz', hcn, hfz⟩ := hR.cells hjl hbb hcz
            have HP := Lib.hid (hR.move hjl z (by omega))
            clear hm1 hm2 hR hz hcn hfz
            go_wp2_with fail
            refine HP.out.mono ?_
            rintro e w5 ⟨rfl, hp5⟩
            obtain ⟨hcz5, ⟨y, hcn⟩, hfz⟩ := hp5.cells hjl hbb hcz
            have HP5 := Lib.hid hp5
            have hne : ¬ g9 = bb := by omega
            have hne' : ¬ bb = g9 := by omega
            clear hp5 hcz hcz'
            go_wp2_with fail
            go_roundg (len1 - (k + 1))
            case measure => omega
            case rel => exact ⟨k + 1, rfl, by omega, by go_num, HP5.out.done hjl⟩
          · have HR2 := Lib.hid hR
            have HG := Lib.hid hgo
            clear hR hgo
            by_cases hlt1 : k < len1
            · have hpos : ¬ 0 < len0 := fun h => HG.out ⟨hlt1, h⟩
              have hd2 : decide ((0 : Int) < (len0 : Int)) = false := by simp; omega
              have hd3 : decide (0 < len0) = false := by simp; omega
              go_wp2_with fail
              go_meet
              case rel => exact HR2.out
            · have hd1 : decide ((k : Int) < (len1 : Int)) = false := by simp; omega
              have hd3 : decide (k < len1) = false := by simp; omega
              go_wp2_with fail
              go_meet
              case rel => exact HR2.out
      case rest =>
        have HR3 := Lib.hid hcut
        clear hcut
        have hszr : w.heap.size ≤ wc.heap.size := by obtain ⟨K, F, N, _, _, h3, _⟩ := HR3.out.ex; exact h3.up.size
        go_wp2_with (refine wpList_make_full _ rfl (.tmp 112) (.tmp 112) 30 rfl wc.heap.size 4 i3 (.bool false) 1 Try.underlying30 HI3.out.1 HI3.out.2.1 HI3.out.2.2.1 .i64 .i64 _ _ len0 rfl rfl rfl rfl (by rw [HI3.out.2.2.2]; omega) (by unfold maxLen; omega) (Nat.le_refl _) ?_)
        obtain ⟨g13, hg13⟩ : ∃ g13, wc.heap.size = g13 := ⟨_, rfl⟩
        rw [hg13]
        intro we hoe hge
        have HP3 := Lib.hid (ph3_start HR3.out hge hoe hg13)
        clear hoe hge hg13
        go_wp2_with fail
        go_loopg [14, 15] len0 (fun g s14 s15 wr => ∃ (i : Nat) (last : Int), len0 - i = g ∧ i ≤ len0 ∧ s14 = .int .i64 last ∧ s15 = .int .i64 i ∧ Ph3 w b len0 i (.slice (some ⟨g9, 0, none⟩) len0 len0) g13 last wr)
        case atStart => exact ⟨0, -1, by omega, by omega, rfl, rfl, HP3.out⟩
        case round =>
          obtain ⟨i, last, rfl, hil, rfl, rfl, hR⟩ := hrel
          by_cases hlt : i < len0
          · have HC := Lib.hid (hR.pop hlt)
            clear hR
            go_wp2_with fail
            refine HC.out.mono ?_
            rintro e w5 ⟨j, v, rfl, hjl, h3⟩
            obtain ⟨c13, f13, c9, hlast, hnext⟩ := h3
            have HN := Lib.hid hnext
            have hj0 : decide ((j : Int) < 0) = false := by simp
            have hj1 : (0 : Int) ≤ (j : Int) := by omega
            have hj2 : (j : Int) < (len0 : Int) := by omega
            have hj3 : decide ((len0 : Int) ≤ (j : Int)) = false := by simp; omega
            have hj4 : decide (len0 ≤ j) = false := by simp; omega
            have hvv : (v != v) = false := by simp
            clear hnext HC
            rcases hlast with rfl | ⟨l, u, rfl, hll, c9l, hle⟩
            · go_wp2_with fail
              go_roundg (len0 - (i + 1))
              case measure => omega
              case rel => exact ⟨i + 1, (j : Int), rfl, by omega, rfl, by go_num, HN.out⟩
            · have hl1 : (0 : Int) ≤ (l : Int) := by omega
              have hl2 : (l : Int) < (len0 : Int) := by omega
              rcases hle with huv | ⟨rfl, hlj⟩
              · have d1 : decide (v < u) = false := by simp; omega
                have d2 : (u == v) = false := by simp; omega
                go_wp2_with fail
                go_roundg (len0 - (i + 1))
                case measure => omega
                case rel => exact ⟨i + 1, (j : Int), rfl, by omega, rfl, by go_num, HN.out⟩
              · have d1 : decide (u < u) = false := by simp
                have d3 : decide ((j : Int) < (l : Int)) = false := by simp; omega
                have d4 : decide (j < l) = false := by simp; omega
                go_wp2_with fail
                go_roundg (len0 - (i + 1))
                case measure => omega
                case rel => exact ⟨i + 1, (j : Int), rfl, by omega, rfl, by go_num, HN.out⟩
          · have hd : decide (i < len0) = false := by simpa using hlt
            have hi : i = len0 := by omega
            have HR4 := Lib.hid (hi ▸ hR)
            clear hR hi
            go_wp2_with fail
            obtain ⟨K, F, N, O, h1, h2, h3, h4, h5, h6, h7, h8, h9⟩ := HR4.out.ex
            obtain rfl : K = [] := List.length_eq_zero_iff.1 (by omega)
            have HH := Lib.hid h2.hp
            have HUU := Lib.hid h2.up
            clear h1 h2 h3 h4 h5 h6 h7 h8 h9
            refine (pop_empty b F _ HH.out).mono ?_
            rintro e w' ⟨rfl, rfl⟩
            go_wp2_with fail
            refine (len_spec b _ F _ HH.out).mono ?_
            rintro e w' ⟨rfl, rfl⟩
            rw [show ([] : List It).length = 0 from rfl]
            go_wp2_with fail
            go_ret
            exact ⟨rfl, HUU.out⟩
end Go.Proofs.Ytjgmbgdbhpfciaa
