/- The beginning of an operation. -/
import Derived.Test.YtnenhecnkidnpaaAP
namespace Go.Proofs.Ytnenhecnkidnpaa
open Go.RowKit Go.Maps Go.ChangeMaps Go.WideShapes

/-- the levels, as far as they are written -/
def lvI (K : KV) (i : Nat) : List Nat := (List.range K.vars).map fun v => if K.lev v < i then K.lev v else 0

theorem lvI_len (K : KV) (i : Nat) : (lvI K i).length = K.vars := by simp [lvI]
theorem lvI_get (K : KV) (i v : Nat) (h : v < K.vars) : (lvI K i)[v]? = some (if K.lev v < i then K.lev v else 0) := by simp [lvI, h]

theorem lvI_zero (K : KV) : flatN (lvI K 0) = (madeCells #[Value.int .i64 0] K.vars).toList := by
  rw [idRow_zero]
  simp only [idRow, List.range_zero, flatN, List.map_nil, List.nil_append, Nat.sub_zero, lvI, Nat.not_lt_zero, if_false, List.map_map]
  refine List.ext_getElem? fun j => ?_
  simp [List.getElem?_replicate]
  split <;> simp_all

theorem lvI_set {K : KV} (h : K.Perm) {i v : Nat} (hi : i < K.vars) (hv : K.order.getD i 0 = v) : (lvI K i).set v i = lvI K (i + 1) := by
  have ho := h.oo i hi
  rw [hv] at ho
  refine List.ext_getElem? fun j => ?_
  rw [List.getElem?_set]
  by_cases hj : j < K.vars
  · rw [lvI_get K i j hj, lvI_get K (i + 1) j hj]
    by_cases e : v = j
    · subst e
      rw [if_pos rfl, if_pos (by rw [lvI_len]; exact hj), if_pos (by omega), ho.2]
    · rw [if_neg e]
      have : K.lev j ≠ i := fun e2 => e (h.inj ho.1 hj (by rw [ho.2, e2]))
      congr 1
      by_cases h1 : K.lev j < i
      · rw [if_pos h1, if_pos (by omega)]
      · rw [if_neg h1, if_neg (by omega)]
  · have e1 : (lvI K i)[j]? = none := List.getElem?_eq_none (by rw [lvI_len]; omega)
    have e2 : (lvI K (i + 1))[j]? = none := List.getElem?_eq_none (by rw [lvI_len]; omega)
    rw [e1, e2]
    split
    · rename_i e; subst e; omega
    · rfl

theorem lvI_end {K : KV} (h : K.Perm) : lvI K K.vars = K.level := by
  refine List.ext_getElem? fun j => ?_
  by_cases hj : j < K.vars
  · rw [lvI_get K _ j hj, if_pos (h.lo j hj).1]
    have : j < K.level.length := by rw [h.ll]; exact hj
    simp [KV.lev, this]
  · rw [List.getElem?_eq_none (by rw [lvI_len]; omega), List.getElem?_eq_none (by rw [h.ll]; omega)]

/-- the second loop of begin -/
structure BgR (w : World) (wb b gl go : Nat) (cap : Nat) (K : KV) (i : Nat) (wr : World) : Prop where
  blk : wr.heap[wb]? = some (.cells #[.pointer (some ⟨b, 0, none⟩), .slice (some ⟨gl, 0, none⟩) K.vars K.vars, .slice none 0 0] 104 (0, 0))
  row : wr.ownsRow w.heap.size 3 1 (.slice (some ⟨gl, 0, none⟩) K.vars K.vars) K.vars (flatN (lvI K i))
  ord : wr.ownsRow w.heap.size 3 1 (.slice (some ⟨go, 0, none⟩) K.vars cap) K.vars (flatN K.order)
  nwg : wb ≠ gl
  nog : go ≠ gl
  lb : w.heap.size ≤ wb
  up : Upd [] w wr

theorem BgR.step {w wr : World} {wb b gl go cap i v : Nat} {K : KV} (h : BgR w wb b gl go cap K i wr) (hp : K.Perm) (hi : i < K.vars) (hv : K.order.getD i 0 = v) : BgR w wb b gl go cap K (i + 1) (wr.setCell ⟨gl, v, none⟩ (.int .i64 i)) := by
  have hvl := (hp.oo i hi).1
  rw [hv] at hvl
  refine ⟨by rw [heap_set_ne h.nwg]; exact h.blk, ?_, row_ne h.ord (a := ⟨gl, v, none⟩) (by simp [Value.ownBlock]; exact Ne.symm h.nog) _, h.nwg, h.nog, h.lb, h.up.setCell (p := ⟨gl, v, none⟩) (.inr (h.row.lt gl rfl).1) _⟩
  have := row_set h.row (j := v) (by omega) (.int .i64 i)
  rw [← lvI_set hp hi hv]
  have e : (flatN (lvI K i)).set v (.int .i64 i) = flatN ((lvI K i).set v i) := by simp [flatN, List.map_set]
  rw [← e]; exact this

theorem BgR.done {w wr : World} {wb b gl go cap : Nat} {K : KV} {T : List DM} {q : KPtr} (h : BgR w wb b gl go cap K K.vars wr) (hk : KerIn w b K T q) :
    WK wr wb b K T q [] (.slice (some ⟨gl, 0, none⟩) K.vars K.vars) (.slice none 0 0) ∧ Upd [] w wr ∧ ∀ k, k ∈ workF wb (.slice (some ⟨gl, 0, none⟩) K.vars K.vars) (.slice none 0 0) → w.heap.size ≤ k := by
  have hgl := h.row.lt gl rfl
  have hlb := h.lb
  have hF : ∀ k, k ∈ workF wb (.slice (some ⟨gl, 0, none⟩) K.vars K.vars) (.slice none 0 0) → w.heap.size ≤ k := fun k hk => by
    rcases mem_workF.1 hk with h | h | h
    · omega
    · simp [Value.ownBlock] at h; omega
    · simp [Value.ownBlock] at h
  refine ⟨⟨hk.upd h.up (by simp), ⟨h.blk, ?_, World.ownsRow_nil _ _ _ _, by simp [Value.ownBlock]; exact Ne.symm h.nwg, by simp [Value.ownBlock], fun k _ => by simp [Value.ownBlock]⟩, fun k hm hf => ?_⟩, h.up, hF⟩
  · have := row_base h.row (Nat.zero_le _)
    rw [lvI_end hk.ok.ord.pm] at this
    rw [hk.ok.ord.pm.ll]; exact this
  · have := hk.mem.lt k hm
    have := hF k hf
    omega

set_option maxRecDepth 100000 in
set_option maxHeartbeats 3200000 in
theorem begin_ok (b : Nat) (K : KV) (T : List DM) (q : KPtr) (lv : Value) (rs : List Nat) (w : World) (h : KerIn w b K T q) (hrow : w.ownsRow 0 27 1 lv rs.length (flatRefs rs)) (hl : ∀ r, r ∈ rs → K.A.tk r = true) (hlen : rs.length ≤ 1099511627776) :
    Calls Try.prog 35 #[.pointer (some ⟨b, 0, none⟩), lv] w fun e w' =>
      ∃ (wb : Nat) (lvv : Value), e = .returned (.tuple #[.pointer (some ⟨wb, 0, none⟩), .int .i64 0]) ∧ WK w' wb b K T q [] lvv (.slice none 0 0) ∧ Upd [] w w' ∧ ∀ k, k ∈ workF wb lvv (.slice none 0 0) → w.heap.size ≤ k := by
  obtain ⟨fa, fc, rfl, _⟩ := row_nil_len hrow
  obtain ⟨i2, hi2, hz2, hs2, hb2⟩ := info_parts Try.infoIntI
  have HI := Lib.hid (And.intro hi2 (And.intro hz2 (And.intro hs2 hb2)))
  have HK := Lib.hid h
  have HR := Lib.hid hrow
  have HL := Lib.hid hl
  have hvs := h.ok.wf.vs
  have hol := h.ok.ord.pm.ol
  clear h hrow hl hi2 hz2 hs2 hb2
  go_enter Try.func35, Try.ntmps35
  go_wp2_with fail
  go_loopg [17] rs.length (fun g s17 wr => ∃ i : Nat, rs.length - i = g ∧ i ≤ rs.length ∧ s17 = .int .i64 i ∧ Upd [] w wr)
  case atStart => exact ⟨0, by omega, by omega, rfl, Upd.refl _ _⟩
  case round =>
    obtain ⟨i, rfl, hi, rfl, hU⟩ := hrel
    by_cases hlt : i < rs.length
    · obtain ⟨f, hf⟩ : ∃ f, rs[i]? = some f := ⟨_, List.getElem?_eq_getElem hlt⟩
      have htk := HL.out f (List.mem_of_getElem? hf)
      obtain ⟨p, hp, hpt⟩ := ArenaV.tk_iff.1 htk
      obtain ⟨g, rfl⟩ := row_some HR.out (by omega)
      have hr := row_keep HR.out fun k hk => hU.block k (HR.out.lt k hk).2 (by simp)
      have cf : wr.cell? ⟨g, i, none⟩ = some (.int .u32 f) := row_cell hr (by simp [flatRefs, hf])
      have hil : (i : Int) < (rs.length : Int) := by omega
      have hf32 := HK.out.ok.ref_lt htk
      have HP := Lib.hid (And.intro hp hpt)
      have HU := Lib.hid hU
      clear hU hr htk hp hpt hf
      go_wp2_with fail
      refine (nodeof_yes b f K T q p _ (HK.out.upd HU.out (by simp)).mem (by omega) HP.out.1 HP.out.2).mono ?_
      rintro e w1 ⟨rfl, hu⟩
      have HU1 := Lib.hid (HU.out.trans hu)
      clear hu
      go_wp2_with fail
      go_roundg (rs.length - (i + 1))
      case measure => omega
      case rel => exact ⟨i + 1, rfl, by omega, by simp, HU1.out.alloc _⟩
    · have hil : ¬ ((i : Int) < (rs.length : Int)) := by omega
      have HU := Lib.hid hU
      clear hU
      go_wp2_with fail
      refine (vars_spec b K T q _ (HK.out.upd HU.out (by simp)).mem).mono ?_
      rintro e w1 ⟨rfl, rfl⟩
      go_wp2_with (refine wpList_make_full _ rfl (.tmp 33) (.tmp 33) 22 rfl w1.heap.size 3 i2 (.int .i64 0) 1 Try.underlying22 HI.out.1 HI.out.2.1 HI.out.2.2.1 .i64 .i64 _ _ K.vars rfl rfl rfl rfl (by rw [HI.out.2.2.2]; omega) (by unfold maxLen; omega) (Nat.le_refl _) ?_)
      obtain ⟨gl, hgl⟩ : ∃ g, w1.heap.size = g := ⟨_, rfl⟩
      rw [hgl]
      intro w2 ho hgr
      have hU2 : Upd [] w1 w2 := (Upd.refl [] w1).grown hgr (by simp)
      have hgl2 := (ho.lt gl rfl).2
      have HB2 := Lib.hid (And.intro ho (And.intro hU2 (And.intro hgl hgl2)))
      clear ho hgr hU2
      go_wp2_with fail
      have UA : Upd [] w (w2.alloc (.cells #[.pointer (some ⟨b, 0, none⟩), .slice (some ⟨gl, 0, none⟩) K.vars K.vars, .slice none 0 0] 104 (0, 0))) := (HU.out.trans HB2.out.2.1).alloc _
      have HUA := Lib.hid UA
      refine (order_spec b K T q _ (HK.out.upd UA (by simp)).mem (by omega) (by omega)).mono ?_
      rintro e w3 ⟨go, cap, rfl, ho3, hu3⟩
      have HBG : Hid (BgR w w2.heap.size b gl go cap K 0 w3) := by
        obtain ⟨r1, r2, r3, r4⟩ := HB2.out
        have hs := HU.out.size
        have hal := heap_alloc_new w2 (.cells #[.pointer (some ⟨b, 0, none⟩), .slice (some ⟨gl, 0, none⟩) K.vars K.vars, .slice none 0 0] 104 (0, 0))
        have hz := ho3.lt go rfl
        rw [World.size_alloc] at hz
        have hs2 := r2.size
        refine ⟨(hu3.block _ (heap_lt hal) (by simp)).trans hal, ?_, ?_, by omega, by omega, by omega, HUA.out.trans hu3⟩
        · rw [lvI_zero]
          refine row_keep (row_base r1 (by omega)) fun k hk => ?_
          simp [Value.ownBlock] at hk; subst hk
          rw [hu3.block _ (by rw [World.size_alloc]; omega) (by simp), heap_alloc_old _ _ r4]
        · have e : K.vars = K.order.length := hol.symm
          have := row_base ho3 (show w.heap.size ≤ _ by rw [World.size_alloc]; omega)
          rw [hol] at this; exact this
      rw [hol]
      clear ho3 hu3 UA HB2 hgl hgl2
      generalize w2.heap.size = wb at HBG
      go_wp2_with fail
      go_loopg [40] K.vars (fun g s40 wr => ∃ i : Nat, K.vars - i = g ∧ i ≤ K.vars ∧ s40 = .int .i64 i ∧ BgR w wb b gl go cap K i wr)
      case atStart => exact ⟨0, by omega, by omega, rfl, HBG.out⟩
      case round =>
        obtain ⟨j, rfl, hj, rfl, hE⟩ := hrel
        by_cases hjt : j < K.vars
        · obtain ⟨v, hv⟩ : ∃ v, K.order.getD j 0 = v := ⟨_, rfl⟩
          have hpm := HK.out.ok.ord.pm
          have hvl := (hpm.oo j hjt).1
          rw [hv] at hvl
          have cv : wr.cell? ⟨go, j, none⟩ = some (.int .i64 v) := row_cell hE.ord (by
            have e : K.order[j]? = some v := by
              rw [← hv, List.getD_eq_getElem?_getD, List.getElem?_eq_getElem (by omega)]; rfl
            simp [flatN, e])
          have c1 : wr.cell? ⟨wb, 1, none⟩ = some (.slice (some ⟨gl, 0, none⟩) K.vars K.vars) := cell_at hE.blk rfl
          have cg : wr.cell? ⟨gl, v, none⟩ = some (.int .i64 ((if K.lev v < j then K.lev v else 0 : Nat) : Int)) := row_cell hE.row (by simp [flatN, lvI_get K j v hvl])
          have fg := row_frozen hE.row v
          have hjl : (j : Int) < (K.vars : Int) := by omega
          have hvi : (v : Int) < (K.vars : Int) := by omega
          have HE := Lib.hid (hE.step hpm hjt hv)
          clear hE hpm hv
          go_wp2_with fail
          go_roundg (K.vars - (j + 1))
          case measure => omega
          case rel => exact ⟨j + 1, rfl, by omega, by simp, HE.out⟩
        · obtain rfl : j = K.vars := by omega
          have hjl : ¬ ((K.vars : Int) < (K.vars : Int)) := by omega
          have HE := Lib.hid hE
          clear hE
          go_wp2_with fail
          go_ret2
          exact ⟨wb, rfl, _, HE.out.done HK.out⟩

set_option maxRecDepth 100000 in
set_option maxHeartbeats 1600000 in
theorem begin_no (b : Nat) (K : KV) (T : List DM) (q : KPtr) (lv : Value) (rs : List Nat) (m f0 : Nat) (w : World) (h : KerIn w b K T q) (hrow : w.ownsRow 0 27 1 lv rs.length (flatRefs rs)) (hl : ∀ (j r : Nat), j < m → rs[j]? = some r → K.A.tk r = true) (hm : rs[m]? = some f0) (hf : K.A.tk f0 = false) (hf32 : f0 ≤ 4294967295) (hlen : rs.length ≤ 1099511627776) :
    Calls Try.prog 35 #[.pointer (some ⟨b, 0, none⟩), lv] w fun e w' => e = .returned (.tuple #[.pointer none, .int .i64 3]) ∧ Upd [] w w' := by
  obtain ⟨fa, fc, rfl, _⟩ := row_nil_len hrow
  have hml := (List.getElem?_eq_some_iff.1 hm).1
  obtain ⟨g, rfl⟩ := row_some hrow (by omega)
  have HK := Lib.hid h
  have HR := Lib.hid hrow
  have HL := Lib.hid (And.intro hl (And.intro hm hf))
  clear h hrow hl hm hf
  go_enter Try.func35, Try.ntmps35
  go_wp2_with fail
  go_loopg [17] m (fun g2 s17 wr => ∃ i : Nat, m - i = g2 ∧ i ≤ m ∧ s17 = .int .i64 i ∧ Upd [] w wr)
  case atStart => exact ⟨0, by omega, by omega, rfl, Upd.refl _ _⟩
  case round =>
    obtain ⟨i, rfl, hi, rfl, hU⟩ := hrel
    have hr := row_keep HR.out fun k hk => hU.block k (HR.out.lt k hk).2 (by simp)
    have hil : (i : Int) < (rs.length : Int) := by omega
    have HU := Lib.hid hU
    by_cases hlt : i < m
    · obtain ⟨f, hf⟩ : ∃ f, rs[i]? = some f := ⟨_, List.getElem?_eq_getElem (by omega)⟩
      have htk := HL.out.1 i f hlt hf
      obtain ⟨p, hp, hpt⟩ := ArenaV.tk_iff.1 htk
      have cf : wr.cell? ⟨g, i, none⟩ = some (.int .u32 f) := row_cell hr (by simp [flatRefs, hf])
      have hf32 := HK.out.ok.ref_lt htk
      have HP := Lib.hid (And.intro hp hpt)
      clear hU hr htk hp hpt hf
      go_wp2_with fail
      refine (nodeof_yes b f K T q p _ (HK.out.upd HU.out (by simp)).mem (by omega) HP.out.1 HP.out.2).mono ?_
      rintro e w1 ⟨rfl, hu⟩
      have HU1 := Lib.hid (HU.out.trans hu)
      clear hu
      go_wp2_with fail
      go_roundg (m - (i + 1))
      case measure => omega
      case rel => exact ⟨i + 1, rfl, by omega, by simp, HU1.out.alloc _⟩
    · obtain rfl : i = m := by omega
      have cf : wr.cell? ⟨g, i, none⟩ = some (.int .u32 f0) := row_cell hr (by simp [flatRefs, HL.out.2.1])
      clear hU hr
      go_wp2_with fail
      refine (nodeof_no b f0 K T q _ (HK.out.upd HU.out (by simp)).mem hf32 HL.out.2.2).mono ?_
      rintro e w1 ⟨rfl, hu⟩
      have HU1 := Lib.hid (HU.out.trans hu)
      clear hu
      go_wp2_with fail
      go_ret2
      exact ⟨rfl, HU1.out.alloc _⟩
end Go.Proofs.Ytnenhecnkidnpaa
