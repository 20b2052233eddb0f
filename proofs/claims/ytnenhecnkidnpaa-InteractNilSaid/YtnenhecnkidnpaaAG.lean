/- The recursion in memory. -/
import Derived.Test.YtnenhecnkidnpaaAR2
namespace Go.Proofs.Ytnenhecnkidnpaa
open Go.RowKit Go.Maps Go.ChangeMaps Go.WideShapes

/-- a function of the program that has a body -/
def Enters (fl : Nat) : Prop := ∀ (args : Array Value) (w : World), (callFunc fl args).run Try.prog w = .ok (.enter fl args) w

/-- what the leaf answers, as long as its memory is as in w -/
def LeafOk (w : World) (fl : Nat) (caps : Array Value) (FL : List Nat) (L : Bool → Bool → Bool → Bool) : Prop :=
  ∀ w', (∀ k, k ∈ FL → w'.heap[k]? = w.heap[k]?) → ∀ x y z : Bool, Calls Try.prog fl (#[.bool x, .bool y, .bool z] ++ caps) w' fun e w'' => e = .returned (.bool (L x y z)) ∧ Upd [] w' w''

structure RunM (w : World) (wb b ck cw cl cg mb fl : Nat) (caps : Array Value) (FL : List Nat) (L : Bool → Bool → Bool → Bool) (K : KV) (T : List DM) (q : KPtr) (M : List Nat) (lvv mv : Value) (D : DM) : Prop where
  wk : WK w wb b K T q M lvv mv
  bw : w.heap[cw]? = some (.cells #[.pointer (some ⟨wb, 0, none⟩)] 77 (0, 0))
  bk : w.heap[ck]? = some (.cells #[.map (some mb)] 106 (0, 0))
  bl : w.heap[cl]? = some (.cells #[.func (Fn.func fl) #[] caps] 83 (0, 0))
  bg : w.heap[cg]? = some (.cells #[.func (Fn.func 56) #[] #[.pointer (some ⟨ck, 0, none⟩), .pointer (some ⟨cw, 0, none⟩), .pointer (some ⟨cl, 0, none⟩), .pointer (some ⟨cg, 0, none⟩)]] 107 (0, 0))
  map : w.ownsMap Try.prog 82 (plainElem Try.prog 27) mb (Maps.size D) D
  leaf : LeafOk w fl caps FL L
  fl_lt : ∀ k, k ∈ FL → k < w.heap.size
  dj : ∀ k, k ∈ mb :: wkF wb b q lvv mv → k ≠ ck ∧ k ≠ cw ∧ k ≠ cl ∧ k ≠ cg ∧ k ∉ FL
  dm : mb ∉ wkF wb b q lvv mv

def runF (mb wb b : Nat) (q : KPtr) (lvv mv : Value) : List Nat := mb :: wkF wb b q lvv mv

theorem RunM.lt {w : World} {wb b ck cw cl cg mb fl : Nat} {caps : Array Value} {FL : List Nat} {L : Bool → Bool → Bool → Bool} {K : KV} {T : List DM} {q : KPtr} {M : List Nat} {lvv mv : Value} {D : DM} (h : RunM w wb b ck cw cl cg mb fl caps FL L K T q M lvv mv D) :
    ∀ k, k ∈ runF mb wb b q lvv mv → k < w.heap.size := by
  intro k hk
  rcases List.mem_cons.1 hk with rfl | hk
  · exact h.map.lt
  · exact h.wk.lt k hk

/-- nothing of it has turned -/
theorem RunM.keep {w w' : World} {wb b ck cw cl cg mb fl : Nat} {caps : Array Value} {FL : List Nat} {L : Bool → Bool → Bool → Bool} {K : KV} {T : List DM} {q : KPtr} {M : List Nat} {lvv mv : Value} {D : DM} (h : RunM w wb b ck cw cl cg mb fl caps FL L K T q M lvv mv D) (u : Upd [] w w') :
    RunM w' wb b ck cw cl cg mb fl caps FL L K T q M lvv mv D := by
  have e : ∀ {k : Nat} {o : Obj}, w.heap[k]? = some o → w'.heap[k]? = some o := fun {k o} hk => by rw [u.block k (heap_lt hk) (by simp)]; exact hk
  refine ⟨h.wk.upd u (by simp), e h.bw, e h.bk, e h.bl, e h.bg, own_keep h.map (u.block _ h.map.lt (by simp)), fun w2 h2 => h.leaf w2 fun k hk => (h2 k hk).trans (u.block k (h.fl_lt k hk) (by simp)), fun k hk => Nat.lt_of_lt_of_le (h.fl_lt k hk) u.size, h.dj, h.dm⟩

/-- the work has gone on -/
theorem RunM.work {w w' : World} {wb b ck cw cl cg mb fl : Nat} {caps : Array Value} {FL : List Nat} {L : Bool → Bool → Bool → Bool} {K K' : KV} {T T' : List DM} {q q' : KPtr} {M M' : List Nat} {lvv mv mv' : Value} {D : DM} (h : RunM w wb b ck cw cl cg mb fl caps FL L K T q M lvv mv D)
    (hw : WK w' wb b K' T' q' M' lvv mv') (u : Upd (wkF wb b q lvv mv) w w') (s : Sub (wkF wb b q lvv mv) w (wkF wb b q' lvv mv')) : RunM w' wb b ck cw cl cg mb fl caps FL L K' T' q' M' lvv mv' D := by
  have out : ∀ k, k < w.heap.size → k ∉ wkF wb b q lvv mv → k ∉ wkF wb b q' lvv mv' := fun k hk hn hm => by
    rcases s k hm with h | h
    · exact hn h
    · omega
  have djw : ∀ k, k ∈ wkF wb b q lvv mv → k ≠ ck ∧ k ≠ cw ∧ k ≠ cl ∧ k ≠ cg ∧ k ∉ FL := fun k hk => h.dj k (List.mem_cons_of_mem _ hk)
  have nk : ck ∉ wkF wb b q lvv mv := fun hk => (djw _ hk).1 rfl
  have nw : cw ∉ wkF wb b q lvv mv := fun hk => (djw _ hk).2.1 rfl
  have nl : cl ∉ wkF wb b q lvv mv := fun hk => (djw _ hk).2.2.1 rfl
  have ng : cg ∉ wkF wb b q lvv mv := fun hk => (djw _ hk).2.2.2.1 rfl
  have nf : ∀ k, k ∈ FL → k ∉ wkF wb b q lvv mv := fun k hf hk => (djw _ hk).2.2.2.2 hf
  have e : ∀ {k : Nat} {o : Obj}, k ∉ wkF wb b q lvv mv → w.heap[k]? = some o → w'.heap[k]? = some o := fun {k o} hn hk => by rw [u.block k (heap_lt hk) hn]; exact hk
  refine ⟨hw, e nw h.bw, e nk h.bk, e nl h.bl, e ng h.bg, own_keep h.map (u.block _ h.map.lt h.dm), fun w2 h2 => h.leaf w2 fun k hk => (h2 k hk).trans (u.block k (h.fl_lt k hk) (nf k hk)), fun k hk => Nat.lt_of_lt_of_le (h.fl_lt k hk) u.size, ?_, out mb h.map.lt h.dm⟩
  intro k hk
  rcases List.mem_cons.1 hk with rfl | hk
  · exact h.dj _ (by simp)
  · refine ⟨?_, ?_, ?_, ?_, fun hf => out k (h.fl_lt k hf) (nf k hf) hk⟩ <;> rintro rfl
    · exact out _ (heap_lt h.bk) nk hk
    · exact out _ (heap_lt h.bw) nw hk
    · exact out _ (heap_lt h.bl) nl hk
    · exact out _ (heap_lt h.bg) ng hk

/-- one answer more is known -/
theorem RunM.known {w w' : World} {wb b ck cw cl cg mb fl : Nat} {caps : Array Value} {FL : List Nat} {L : Bool → Bool → Bool → Bool} {K : KV} {T : List DM} {q : KPtr} {M : List Nat} {lvv mv : Value} {D D' : DM} (h : RunM w wb b ck cw cl cg mb fl caps FL L K T q M lvv mv D)
    (hm : w'.ownsMap Try.prog 82 (plainElem Try.prog 27) mb (Maps.size D') D') (u : Upd [mb] w w') : RunM w' wb b ck cw cl cg mb fl caps FL L K T q M lvv mv D' := by
  have hmb := h.dj mb (by simp)
  have e : ∀ {k : Nat} {o : Obj}, mb ≠ k → w.heap[k]? = some o → w'.heap[k]? = some o := fun {k o} hn hk => by rw [u.block k (heap_lt hk) (by simp; exact Ne.symm hn)]; exact hk
  refine ⟨h.wk.upd u (fun k hk hm => ?_), e hmb.2.1 h.bw, e hmb.1 h.bk, e hmb.2.2.1 h.bl, e hmb.2.2.2.1 h.bg, hm, fun w2 h2 => h.leaf w2 fun k hk => (h2 k hk).trans (u.block k (h.fl_lt k hk) ?_), fun k hk => Nat.lt_of_lt_of_le (h.fl_lt k hk) u.size, h.dj, h.dm⟩
  · simp at hm; subst hm; exact h.dm hk
  · simp; rintro rfl; exact hmb.2.2.2.2 hk

theorem RunM.cells {w : World} {wb b ck cw cl cg mb fl : Nat} {caps : Array Value} {FL : List Nat} {L : Bool → Bool → Bool → Bool} {K : KV} {T : List DM} {q : KPtr} {M : List Nat} {lvv mv : Value} {D : DM} (h : RunM w wb b ck cw cl cg mb fl caps FL L K T q M lvv mv D) :
    w.cell? ⟨cw, 0, none⟩ = some (.pointer (some ⟨wb, 0, none⟩)) ∧ w.cell? ⟨ck, 0, none⟩ = some (.map (some mb)) ∧ w.cell? ⟨cl, 0, none⟩ = some (.func (Fn.func fl) #[] caps) ∧
    w.cell? ⟨cg, 0, none⟩ = some (.func (Fn.func 56) #[] #[.pointer (some ⟨ck, 0, none⟩), .pointer (some ⟨cw, 0, none⟩), .pointer (some ⟨cl, 0, none⟩), .pointer (some ⟨cg, 0, none⟩)]) :=
  ⟨cell_at h.bw rfl, cell_at h.bk rfl, cell_at h.bl rfl, cell_at h.bg rfl⟩

theorem known_size {K0 K : KV} {L : Bool → Bool → Bool → Bool} {M : List Nat} {D : DM} (h : KnownOk K0 L M K D) (hc : Maps.Canon D) (ht : Tidy D) : Maps.size D < maxLen := by
  have := size_le_keys hc (ks := (List.range 1048576).flatMap fun f => (List.range 1048576).flatMap fun g => (List.range 1048576).map fun k => qk f g k) (fun k hk => by
    obtain ⟨f, g, h, rfl, h0, h1, h2⟩ := h.dom k hk
    exact List.mem_flatMap.2 ⟨f, List.mem_range.2 h0, List.mem_flatMap.2 ⟨g, List.mem_range.2 h1, List.mem_map.2 ⟨h, List.mem_range.2 h2, rfl⟩⟩⟩) ht
  simp only [List.length_flatMap, List.length_map, List.length_range, List.map_const', List.sum_replicate_nat] at this
  unfold maxLen; omega

/-- the post of the recursion -/
structure GoP (K0 : KV) (S : ((Nat → Bool) → Bool) → Prop) (f g h wb b ck cw cl cg mb fl : Nat) (caps : Array Value) (FL : List Nat) (L : Bool → Bool → Bool → Bool) (K : KV) (q : KPtr) (M : List Nat) (lvv mv : Value) (w : World) (r : Nat) (code : Int) (w' : World) : Prop where
  ex : ∃ (K' : KV) (M' : List Nat) (T' : List DM) (q' : KPtr) (mv' : Value) (D' : DM), StepR K0 K L S f g h M r code K' M' ∧ KnownOk K0 L M' K' D' ∧ RunM w' wb b ck cw cl cg mb fl caps FL L K' T' q' M' lvv mv' D' ∧ Upd (runF mb wb b q lvv mv) w w' ∧ Sub (runF mb wb b q lvv mv) w (runF mb wb b q' lvv mv')
  r32 : r ≤ 4294967295

end Go.Proofs.Ytnenhecnkidnpaa
