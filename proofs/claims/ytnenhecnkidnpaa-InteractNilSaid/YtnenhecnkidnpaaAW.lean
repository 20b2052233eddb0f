/- An operation under way in memory; what it makes. -/
import Derived.Test.YtnenhecnkidnpaaKN
import Derived.Deep.DeepCutAuto
namespace Go.Proofs.Ytnenhecnkidnpaa
open Go.RowKit Go.Maps Go.ChangeMaps Go.WideShapes

theorem Try.infoRefA : (Try.prog.info? 27).map (fun i => (i.zero, i.size, i.bytes)) = some (some (.int .u32 0), 1, 4) := by kernel_rfl

/-- the work, its levels, what it has made -/
structure WorkAt (w : World) (wb b : Nat) (lv M : List Nat) (lvv mv : Value) : Prop where
  blk : w.heap[wb]? = some (.cells #[.pointer (some ⟨b, 0, none⟩), lvv, mv] 104 (0, 0))
  ls : w.ownsRow 0 3 1 lvv lv.length (flatN lv)
  ms : w.ownsRow 0 27 1 mv M.length (flatRefs M)
  d1 : lvv.ownBlock ≠ some wb
  d2 : mv.ownBlock ≠ some wb
  d3 : ∀ k, lvv.ownBlock = some k → mv.ownBlock ≠ some k

def workF (wb : Nat) (lvv mv : Value) : List Nat := wb :: (lvv.ownBlock.toList ++ mv.ownBlock.toList)
theorem mem_workF {wb k : Nat} {lvv mv : Value} : k ∈ workF wb lvv mv ↔ k = wb ∨ lvv.ownBlock = some k ∨ mv.ownBlock = some k := by simp [workF]

theorem WorkAt.keep {w w' : World} {wb b : Nat} {lv M : List Nat} {lvv mv : Value} (h : WorkAt w wb b lv M lvv mv) (hk : ∀ k, k ∈ workF wb lvv mv → w'.heap[k]? = w.heap[k]?) : WorkAt w' wb b lv M lvv mv :=
  ⟨by rw [hk wb (mem_workF.2 (.inl rfl))]; exact h.blk, row_keep h.ls fun k hm => hk k (mem_workF.2 (.inr (.inl hm))), row_keep h.ms fun k hm => hk k (mem_workF.2 (.inr (.inr hm))), h.d1, h.d2, h.d3⟩

theorem WorkAt.lt {w : World} {wb b : Nat} {lv M : List Nat} {lvv mv : Value} (h : WorkAt w wb b lv M lvv mv) : ∀ k, k ∈ workF wb lvv mv → k < w.heap.size := by
  intro k hk
  rcases mem_workF.1 hk with rfl | hk | hk
  · exact heap_lt h.blk
  · exact (h.ls.lt k hk).2
  · exact (h.ms.lt k hk).2

/-- the work and its kernel, apart -/
structure WK (w : World) (wb b : Nat) (K : KV) (T : List DM) (q : KPtr) (M : List Nat) (lvv mv : Value) : Prop where
  ker : KerIn w b K T q
  wk : WorkAt w wb b K.level M lvv mv
  dj : ∀ k, k ∈ q.all b → k ∉ workF wb lvv mv

def wkF (wb b : Nat) (q : KPtr) (lvv mv : Value) : List Nat := q.all b ++ workF wb lvv mv

theorem WK.keep {w w' : World} {wb b : Nat} {K : KV} {T : List DM} {q : KPtr} {M : List Nat} {lvv mv : Value} (h : WK w wb b K T q M lvv mv) (hk : ∀ k, k ∈ wkF wb b q lvv mv → w'.heap[k]? = w.heap[k]?) : WK w' wb b K T q M lvv mv :=
  ⟨⟨h.ker.mem.keep fun k hm => hk k (List.mem_append.2 (.inl hm)), h.ker.ti, h.ker.ok⟩, h.wk.keep fun k hm => hk k (List.mem_append.2 (.inr hm)), h.dj⟩

theorem WK.lt {w : World} {wb b : Nat} {K : KV} {T : List DM} {q : KPtr} {M : List Nat} {lvv mv : Value} (h : WK w wb b K T q M lvv mv) : ∀ k, k ∈ wkF wb b q lvv mv → k < w.heap.size := by
  intro k hk
  rcases List.mem_append.1 hk with hk | hk
  · exact h.ker.mem.lt k hk
  · exact h.wk.lt k hk

theorem WK.upd {w w' : World} {wb b : Nat} {K : KV} {T : List DM} {q : KPtr} {M : List Nat} {lvv mv : Value} (h : WK w wb b K T q M lvv mv) {S : List Nat} (u : Upd S w w') (hd : ∀ k, k ∈ wkF wb b q lvv mv → k ∉ S) : WK w' wb b K T q M lvv mv :=
  h.keep fun k hk => u.block k (h.lt k hk) (hd k hk)

/-- after a call of the kernel -/
theorem WK.kernel {w w' : World} {wb b : Nat} {K K' : KV} {T T' : List DM} {q q' : KPtr} {M : List Nat} {lvv mv : Value} (h : WK w wb b K T q M lvv mv) (hk : KerIn w' b K' T' q') (hl : K'.level = K.level) (hu : Upd (q.all b) w w') (hs : Sub (q.all b) w (q'.all b)) :
    WK w' wb b K' T' q' M lvv mv := by
  refine ⟨hk, ?_, ?_⟩
  · rw [hl]
    exact h.wk.keep fun k hm => hu.block k (h.wk.lt k hm) fun hq => h.dj k hq hm
  · intro k hm hf
    rcases hs k hm with hq | hq
    · exact h.dj k hq hf
    · have := h.wk.lt k hf; omega

theorem WK.sub {w : World} {wb b : Nat} {q q' : KPtr} {lvv mv : Value} (hs : Sub (q.all b) w (q'.all b)) : Sub (wkF wb b q lvv mv) w (wkF wb b q' lvv mv) := by
  intro k hk
  rcases List.mem_append.1 hk with hk | hk
  · rcases hs k hk with h | h
    · exact .inl (List.mem_append.2 (.inl h))
    · exact .inr h
  · exact .inl (List.mem_append.2 (.inr hk))

/-- one thing more is made -/
theorem WK.grow {w w5 : World} {wb b g5 cap r : Nat} {X : Obj} {K : KV} {T : List DM} {q : KPtr} {M : List Nat} {lvv mv : Value} (h : WK w wb b K T q M lvv mv) (hg : (w.alloc X).grownBy w5 mv.ownBlock) (hat : mv.ownBlock = some g5 ∨ g5 = w.heap.size + 1)
    (hown : w5.ownsRow 0 27 1 (.slice (some ⟨g5, 0, none⟩) (M.length + 1) cap) (M.length + 1) (flatRefs M ++ [.int .u32 r])) :
    WK (w5.setCell ⟨wb, 2, none⟩ (.slice (some ⟨g5, 0, none⟩) (M.length + 1) cap)) wb b K T q (M ++ [r]) lvv (.slice (some ⟨g5, 0, none⟩) (M.length + 1) cap) ∧
    Upd (wkF wb b q lvv mv) w (w5.setCell ⟨wb, 2, none⟩ (.slice (some ⟨g5, 0, none⟩) (M.length + 1) cap)) ∧
    Sub (wkF wb b q lvv mv) w (wkF wb b q lvv (.slice (some ⟨g5, 0, none⟩) (M.length + 1) cap)) := by
  have hwb := heap_lt h.wk.blk
  have hneg : ∀ k, k < w.heap.size → mv.ownBlock ≠ some k → k ≠ g5 := by
    rintro k hk hn rfl
    rcases hat with e | e
    · exact hn e
    · omega
  have old : ∀ k, k < w.heap.size → mv.ownBlock ≠ some k → k ≠ wb → (w5.setCell ⟨wb, 2, none⟩ (.slice (some ⟨g5, 0, none⟩) (M.length + 1) cap)).heap[k]? = w.heap[k]? := by
    intro k hk hn hw
    rw [heap_set_ne hw, hg.block k (by rw [World.size_alloc]; omega) (Ne.symm hn), heap_alloc_old _ _ hk]
  have hbk : w5.heap[wb]? = w.heap[wb]? := by
    rw [hg.block wb (by rw [World.size_alloc]; omega) (Ne.symm h.wk.d2), heap_alloc_old _ _ hwb]
  rw [h.wk.blk] at hbk
  have hgw : wb ≠ g5 := hneg wb hwb h.wk.d2
  refine ⟨⟨⟨h.ker.mem.keep fun k hk => ?_, h.ker.ti, h.ker.ok⟩, ⟨by rw [heap_set_eq hbk]; rfl, row_keep h.wk.ls fun k hk => ?_, ?_, h.wk.d1, ?_, ?_⟩, ?_⟩, ?_, ?_⟩
  · have hd := h.dj k hk
    exact old k (h.ker.mem.lt k hk) (fun e => hd (mem_workF.2 (.inr (.inr e)))) (fun e => hd (mem_workF.2 (.inl e)))
  · exact old k (h.wk.ls.lt k hk).2 (h.wk.d3 k hk) (fun e => h.wk.d1 (e ▸ hk))
  · have e := row_ne hown (a := ⟨wb, 2, none⟩) (by simpa [Value.ownBlock] using hgw) (.slice (some ⟨g5, 0, none⟩) (M.length + 1) cap)
    simpa [flatRefs] using e
  · simp [Value.ownBlock]; exact Ne.symm hgw
  · intro k hk
    simp [Value.ownBlock]
    exact Ne.symm (hneg k (h.wk.ls.lt k hk).2 (h.wk.d3 k hk))
  · intro k hk hf
    have hd := h.dj k hk
    rcases mem_workF.1 hf with hf | hf | hf
    · exact hd (mem_workF.2 (.inl hf))
    · exact hd (mem_workF.2 (.inr (.inl hf)))
    · simp [Value.ownBlock] at hf
      exact hneg k (h.ker.mem.lt k hk) (fun e => hd (mem_workF.2 (.inr (.inr e)))) hf.symm
  · have hwm : wb ∈ wkF wb b q lvv mv := List.mem_append.2 (.inr (mem_workF.2 (.inl rfl)))
    have hu : Upd (wkF wb b q lvv mv) w w5 := ((Upd.refl _ w).alloc X).grown hg fun k hk => .inl (List.mem_append.2 (.inr (mem_workF.2 (.inr (.inr hk)))))
    exact hu.setCell (p := ⟨wb, 2, none⟩) (.inl hwm) _
  · intro k hk
    rcases List.mem_append.1 hk with hk | hk
    · exact .inl (List.mem_append.2 (.inl hk))
    · rcases mem_workF.1 hk with hk | hk | hk
      · exact .inl (List.mem_append.2 (.inr (mem_workF.2 (.inl hk))))
      · exact .inl (List.mem_append.2 (.inr (mem_workF.2 (.inr (.inl hk)))))
      · simp [Value.ownBlock] at hk; subst hk
        rcases hat with e | e
        · exact .inl (List.mem_append.2 (.inr (mem_workF.2 (.inr (.inr e)))))
        · right; omega

inductive NodeR (K : KV) (v lo hi : Nat) (M : List Nat) : Nat → Int → KV → List Nat → Prop
  | same (he : lo = hi) : NodeR K v lo hi M lo 0 K M
  | old {r : Nat} (hne : lo ≠ hi) (ha : K.At r v lo hi) (hm : K.hold r < 65535) : NodeR K v lo hi M r 0 (K.keepK r) (M ++ [r])
  | full {r : Nat} (hne : lo ≠ hi) (ha : K.At r v lo hi) (hm : K.hold r = 65535) : NodeR K v lo hi M r 0 K M
  | nodes (hne : lo ≠ hi) (hno : ∀ r, ¬ K.At r v lo hi) (hu : K.A.used = K.A.places) : NodeR K v lo hi M 0 9 K M
  | new {r : Nat} {K' : KV} (hne : lo ≠ hi) (hno : ∀ r, ¬ K.At r v lo hi) (hm : K.Made v lo hi r K') : NodeR K v lo hi M r 0 K' (M ++ [r])

theorem MakeR.level {K K' : KV} {v : Int} {lo hi r : Nat} {code : Int} (h : MakeR K v lo hi r code K') : K'.level = K.level := by
  cases h with
  | bad => rfl
  | full => rfl
  | old => exact K.keepK_level _
  | nodes => rfl
  | new _ _ _ hm => exact hm.ext.lv

theorem KV.fits_ok {K : KV} {v lo hi : Nat} (hv : v < K.vars) (h1 : K.A.tk lo = true) (h2 : K.A.tk hi = true) (hl : lo ≠ hi → K.lev v < K.dep lo ∧ K.lev v < K.dep hi) : K.fitsE v lo hi = 0 := by
  unfold KV.fitsE
  rw [if_neg (by simp [KV.isVar, hv]), if_neg (by simp [h1, h2]), if_neg]
  rintro ⟨hne, h⟩
  have := hl hne
  apply h
  simp only [Int.toNat_natCast]
  omega

set_option maxRecDepth 100000 in
set_option maxHeartbeats 1600000 in
theorem wnode_spec (wb b v lo hi : Nat) (K : KV) (T : List DM) (q : KPtr) (M : List Nat) (lvv mv : Value) (w : World) (h : WK w wb b K T q M lvv mv) (hM : M.length ≤ 1099511627776) (hv : v < K.vars) (h1 : K.A.tk lo = true) (h2 : K.A.tk hi = true)
    (hl : lo ≠ hi → K.lev v < K.dep lo ∧ K.lev v < K.dep hi) (hl1 : lo ≤ 4294967295) (hl2 : hi ≤ 4294967295) :
    Calls Try.prog 59 #[.pointer (some ⟨wb, 0, none⟩), .int .i64 v, .int .u32 lo, .int .u32 hi] w fun e w' =>
      ∃ (r : Nat) (code : Int) (K' : KV) (M' : List Nat) (T' : List DM) (q' : KPtr) (mv' : Value), e = .returned (.tuple #[.int .u32 r, .int .i64 code]) ∧ NodeR K v lo hi M r code K' M' ∧ WK w' wb b K' T' q' M' lvv mv' ∧ Upd (wkF wb b q lvv mv) w w' ∧ Sub (wkF wb b q lvv mv) w (wkF wb b q' lvv mv') := by
  have HW := Lib.hid h
  by_cases hlh : lo = hi
  · subst hlh
    clear h
    go_enter Try.func59, Try.ntmps59
    go_wp2_with fail
    go_ret2
    exact ⟨lo, 0, K, M, T, q, mv, rfl, .same rfl, HW.out, Upd.refl _ _, Sub.refl _ _⟩
  · have HF : Hid (K.fitsE v lo hi = 0) := KV.fits_ok hv h1 h2 hl
    have HLH := Lib.hid hlh
    have c0 : w.cell? ⟨wb, 0, none⟩ = some (.pointer (some ⟨b, 0, none⟩)) := cell_at h.wk.blk rfl
    have hd : ¬ ((lo : Int) = (hi : Int)) := by omega
    have hd3 : ((lo : Int) == (hi : Int)) = false := by simp; omega
    clear h
    go_enter Try.func59, Try.ntmps59
    go_wp2_with fail
    refine (make_spec b v lo hi K T q w HW.out.ker hl1 hl2).mono ?_
    rintro e w1 ⟨r, code, K', T', q', rfl, hm, hk, hu, hs⟩
    have HW1 := Lib.hid (And.intro (HW.out.kernel hk hm.level hu hs) (And.intro (hu.mono (fun x hx => List.mem_append.2 (.inl hx)) : Upd (wkF wb b q lvv mv) w w1) (WK.sub (wb := wb) (lvv := lvv) (mv := mv) hs)))
    have hcode : (code = 0 ∧ NodeR K v lo hi M r 0 K' (M ++ [r])) ∨ (code = 8 ∧ K' = K ∧ ∃ s, K.At s v lo hi ∧ K.hold s = 65535) ∨ (code = 9 ∧ NodeR K v lo hi M 0 9 K' M) := by
      cases hm with
      | bad h0 => exact absurd HF.out h0
      | full h0 hs hm =>
        rcases hs with hs | hs
        · exact absurd hs.1 hlh
        · exact .inr (.inl ⟨rfl, rfl, _, by simpa using hs.2, hm⟩)
      | old h0 hs hm =>
        rcases hs with hs | hs
        · exact absurd hs.1 hlh
        · exact .inl ⟨rfl, .old hlh (by simpa using hs.2) hm⟩
      | nodes h0 hne hno hu => exact .inr (.inr ⟨rfl, .nodes hne (by simpa using hno) hu⟩)
      | new h0 hne hno hm => exact .inl ⟨rfl, .new hne (by simpa using hno) (by simpa using hm)⟩
    clear hm hk hu hs
    rcases hcode with ⟨rfl, hn⟩ | ⟨rfl, rfl, s, hs, hfull⟩ | ⟨rfl, hn⟩
    · have HN := Lib.hid hn
      clear hn
      have hrow := HW1.out.1.wk.ms
      obtain ⟨fa, fc, hmv, _⟩ := row_nil_len hrow
      have c2 : w1.cell? ⟨wb, 2, none⟩ = some (.slice fa M.length fc) := by rw [← hmv]; exact cell_at HW1.out.1.wk.blk rfl
      have HMV := Lib.hid hmv
      rw [hmv] at hrow
      have HROW := Lib.hid hrow
      have hwb := heap_lt HW1.out.1.wk.blk
      obtain ⟨i, hi0, hz0, hz1', hz2⟩ := info_parts Try.infoRefA
      have HI := Lib.hid hi0
      have HZ := Lib.hid hz0
      have HZ1 := Lib.hid hz1'
      have HZ2 := Lib.hid hz2
      have HC2 : Hid (∀ u, u ∈ [Value.int .u32 r] → u.oneCell' = true) := by intro u hu; simp at hu; subst hu; rfl
      clear hi0 hz0 hz1' hz2 hrow hmv
      go_wp2_with (at_builtin; go_must (refine wpList_append_lies _ rfl (.tmp 36) (.tmp 38) 31 rfl 0 27 i _ 1 4 Try.underlying31 HI.out HZ.out HZ1.out HZ2.out (by rfl) (by decide) _ M.length (flatRefs M) rfl (HROW.out.alloc _) ⟨w1.heap.size, 0, none⟩ 1 1 [.int .u32 r] rfl rfl ?c1 HC2.out (by omega) (by unfold maxLen; omega) (by omega) (by omega) _ rfl ?_))
      case c1 => exact World.news_of_block (heap_alloc_new w1 (.cells #[.int .u32 r] 27 (0, 0)))
      intro g5 cap w5 hown hgr hat hlt2
      have hat' : mv.ownBlock = some g5 ∨ g5 = w1.heap.size + 1 := by rw [HMV.out]; exact hat
      have HG := Lib.hid (HW1.out.1.grow (g5 := g5) (cap := cap) (r := r) (by rw [HMV.out]; exact hgr) hat' hown)
      have hbk5 : w5.heap[wb]? = w1.heap[wb]? := by
        rw [hgr.block wb (by rw [World.size_alloc]; omega) (by rw [← HMV.out]; exact Ne.symm HW1.out.1.wk.d2), heap_alloc_old _ _ hwb]
      rw [HW1.out.1.wk.blk] at hbk5
      have fz2 : w5.frozen? ⟨wb, 2, none⟩ = false := frozen_at 2 hbk5
      have c52 : w5.cell? ⟨wb, 2, none⟩ = some mv := cell_at hbk5 rfl
      clear hown hgr hat hat' hbk5
      go_wp2_with fail
      go_ret2
      have hsz := HW1.out.2.1.size
      refine ⟨r, 0, _, _, _, _, _, rfl, HN.out, HG.out.1, HW1.out.2.1.then HG.out.2.1 HW1.out.2.2, ?_⟩
      intro k hk
      rcases HG.out.2.2 k hk with h | h
      · exact HW1.out.2.2 k h
      · right; omega
    · have HS := Lib.hid (And.intro hs hfull)
      have c01 : w1.cell? ⟨wb, 0, none⟩ = some (.pointer (some ⟨b, 0, none⟩)) := cell_at HW1.out.1.wk.blk rfl
      clear hs hfull
      go_wp2_with fail
      refine (kfind_spec b v lo hi _ _ _ w1 HW1.out.1.ker hl1 hl2).mono ?_
      rintro e w2 ⟨hu2, hr⟩
      have HU2 := Lib.hid hu2
      clear hu2
      rcases hr with ⟨s', _, hs', rfl⟩ | ⟨hno, _⟩
      · have hss : s' = s := by
          rcases hs' with hs' | hs'
          · exact absurd hs'.1 HLH.out
          · have a1 := hs'.2
            rw [Int.toNat_natCast] at a1
            obtain ⟨a2, p, hp, hpt, e1, e2, e3⟩ := a1
            obtain ⟨b2, c, hc, hct, d1, d2, d3⟩ := HS.out.1
            exact (HW1.out.1.ker.ti.uni HW1.out.1.ker.ok.wf) s' s p c a2 b2 hp hc hpt hct (by rw [e1, d1]) (by rw [e2, d2]) (by rw [e3, d3])
        subst hss
        clear hs'
        go_wp2_with fail
        go_ret2
        exact ⟨s', 0, _, M, _, _, mv, rfl, .full HLH.out HS.out.1 HS.out.2, HW1.out.1.upd HU2.out (by simp), HW1.out.2.1.trans (HU2.out.mono (by simp)), HW1.out.2.2⟩
      · exfalso
        exact (hno HF.out).2 s (by simpa using HS.out.1)
    · have HN := Lib.hid hn
      clear hn
      go_wp2_with fail
      go_ret2
      exact ⟨0, 9, _, M, _, _, mv, rfl, HN.out, HW1.out.1, HW1.out.2.1, HW1.out.2.2⟩
end Go.Proofs.Ytnenhecnkidnpaa
