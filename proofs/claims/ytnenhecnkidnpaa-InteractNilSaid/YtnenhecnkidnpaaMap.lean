/- Plain laws on maps that a call owns: the bound is their size; how many keys there can be; no program is named. -/
import Derived.Test.YtnenhecnkidnpaaU
import Derived.Maps.OwnSet
import Derived.Maps.OwnOps
import Derived.Maps.Ext
namespace Go.Proofs.Ytnenhecnkidnpaa
open Go.RowKit Go.Maps Go.ChangeMaps

abbrev DM := DataW Unit

theorem own_tight {w : World} {P : Program} {k : TypeId} {R : Value → Option (DM × List MemPlace)} {b n : Nat} {D : DM} (h : w.ownsMap P k R b n D) : w.ownsMap P k R b (Maps.size D) D := by
  obtain ⟨es, clock, hb, F, hs, rfl⟩ := h
  refine ⟨es, clock, hb, F, ?_, rfl⟩
  simp [Maps.size, length_sorted]

theorem own_keep {w w' : World} {P : Program} {k : TypeId} {R : Value → Option (DM × List MemPlace)} {b n : Nat} {D : DM} (h : w.ownsMap P k R b n D) (hk : w'.heap[b]? = w.heap[b]?) : w'.ownsMap P k R b n D := by
  obtain ⟨es, clock, hb, r⟩ := h
  exact ⟨es, clock, by rw [hk]; exact hb, r⟩

theorem upd_turned {w w' : World} {b : Nat} (h : w.mapTurned w' b) : Upd [b] w w' := by
  obtain ⟨es, clock, es', clock', hb, rfl⟩ := h
  refine ⟨rfl, rfl, rfl, by simp [setBlock], fun k hk hn => ?_⟩
  simp at hn
  simp [setBlock, Array.getElem?_setIfInBounds]
  intro e; exact absurd e.symm hn

theorem turned_at {w w' : World} {b k : Nat} (h : w.mapTurned w' b) (hk : k ≠ b) : w'.heap[k]? = w.heap[k]? := by
  obtain ⟨es, clock, es', clock', hb, rfl⟩ := h
  simp [setBlock, Array.getElem?_setIfInBounds]
  intro e; exact absurd e.symm hk
theorem turned_size {w w' : World} {b : Nat} (h : w.mapTurned w' b) : w'.heap.size = w.heap.size := by
  obtain ⟨es, clock, es', clock', hb, rfl⟩ := h
  simp [setBlock]

/-- No more entries than keys that there can be. -/
theorem size_le_keys {D : DM} (hc : Maps.Canon D) {ks : List Lit} (h : ∀ k, Maps.has D k = true → k ∈ ks) (ht : Tidy D) : Maps.size D ≤ ks.length := by
  obtain ⟨es, rfl, hs, hk⟩ := hc
  obtain ⟨es', e, hp⟩ := ht
  cases e
  have hnd : (es.map (·.1)).Nodup := by
    rw [List.nodup_iff_pairwise_ne, List.pairwise_map]
    exact hp
  have hsub : es.map (·.1) ⊆ ks := by
    intro k hk'
    obtain ⟨p, hp', rfl⟩ := List.mem_map.1 hk'
    refine h _ ?_
    simp only [Maps.has, List.any_eq_true]
    exact ⟨p, hp', WideAt.sameKey_self (hk p hp')⟩
  have := List.Nodup.length_le_of_subset hnd hsub
  simpa [Maps.size] using this
end Go.Proofs.Ytnenhecnkidnpaa
