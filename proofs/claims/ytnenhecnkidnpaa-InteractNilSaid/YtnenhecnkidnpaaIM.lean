/- interact.Matrix. -/
import Derived.Test.YtnenhecnkidnpaaCT
namespace Go.Proofs.Ytnenhecnkidnpaa
open Go.RowKit Go.Maps Go.ChangeMaps Go.WideShapes

theorem Try.infoU64 : (Try.prog.info? 59).map (fun i => (i.zero, i.size, i.bytes)) = some (some (.int .u64 0), 1, 8) := by kernel_rfl

def flatU (l : List Int) : List Value := l.map fun n => Value.int .u64 n

/-- s is what Support says of r -/
def SupIs (K : KV) (r : Nat) (s : Int) : Prop := ∃ N : List Nat, WalkL K [] [r] N ∧ s = N.foldl (fun s x => supStep s (K.vof x)) 0

def SupL (K : KV) (rs : List Nat) (ss : List Int) : Prop := ss.length = rs.length ∧ ∀ (i r : Nat) (s : Int), rs[i]? = some r → ss[i]? = some s → SupIs K r s

theorem SupL.nil (K : KV) : SupL K [] [] := ⟨rfl, fun i r s h => by simp at h⟩
theorem SupL.snoc {K : KV} {rs : List Nat} {ss : List Int} {r : Nat} {s : Int} (h : SupL K rs ss) (hs : SupIs K r s) : SupL K (rs ++ [r]) (ss ++ [s]) := by
  refine ⟨by simp [h.1], fun i r' s' h1 h2 => ?_⟩
  by_cases hi : i < rs.length
  · rw [List.getElem?_append_left hi] at h1
    rw [List.getElem?_append_left (by rw [h.1]; exact hi)] at h2
    exact h.2 i r' s' h1 h2
  · rw [List.getElem?_append_right (by omega)] at h1
    rw [List.getElem?_append_right (by rw [h.1]; omega), h.1] at h2
    cases e : i - rs.length with
    | zero => rw [e] at h1 h2; simp at h1 h2; subst h1 h2; exact hs
    | succ k => rw [e] at h1; simp at h1

def bitT (s : Int) (v : Nat) : Bool := bits BinOp.and IntKind.u64 (s / 2 ^ v) 1 == 1
def orNotT (x s : Int) (v : Nat) : Int := bits BinOp.or IntKind.u64 x (bits BinOp.andNot IntKind.u64 s (IntKind.u64.wrap (2 ^ v)))
/-- one support, one variable -/
def matUpd (s : Int) (M : List Int) (v : Nat) : List Int := if bitT s v then M.set v (orNotT (M.getD v 0) s v) else M
def matRow (n : Nat) (M : List Int) (s : Int) : List Int := (List.range n).foldl (matUpd s) M

theorem matUpd_len (s : Int) (M : List Int) (v : Nat) : (matUpd s M v).length = M.length := by unfold matUpd; split <;> simp
theorem matRow_len (n : Nat) (M : List Int) (s : Int) : (matRow n M s).length = M.length := by
  unfold matRow
  induction n with
  | zero => rfl
  | succ n ih => rw [List.range_succ, List.foldl_append]; simp [matUpd_len, ih]

theorem madeU (n : Nat) : (madeCells #[Value.int .u64 0] n).toList = List.replicate n (Value.int .u64 0) := by
  apply List.ext_getElem?
  intro i
  by_cases hi : i < n
  · simp [madeCells, hi, Nat.mod_one]
  · simp [madeCells, hi]

/-- the loops of Matrix, in memory -/
structure MatR (w : World) (g n : Nat) (M : List Int) (wr : World) : Prop where
  row : wr.ownsRow w.heap.size 59 1 (.slice (some ⟨g, 0, none⟩) n n) n (flatU M)
  len : M.length = n
  up : Upd [] w wr

theorem MatR.keep {w wr w2 : World} {g n : Nat} {M : List Int} (h : MatR w g n M wr) (u : Upd [] wr w2) : MatR w g n M w2 :=
  ⟨row_keep h.row fun k hk => u.block k (h.row.lt k hk).2 (by simp), h.len, h.up.trans u⟩

theorem MatR.set {w wr : World} {g n v : Nat} {M : List Int} (h : MatR w g n M wr) (hv : v < n) (x : Int) : MatR w g n (M.set v x) (wr.setCell ⟨g, v, none⟩ (.int .u64 x)) := by
  refine ⟨?_, by simpa using h.len, h.up.setCell (p := ⟨g, v, none⟩) (.inr (h.row.lt g rfl).1) _⟩
  have := row_set h.row (j := v) (by omega) (.int .u64 x)
  have e : (flatU M).set v (.int .u64 x) = flatU (M.set v x) := by simp [flatU, List.map_set]
  rw [← e]; exact this

set_option maxRecDepth 100000 in
set_option maxHeartbeats 1600000 in
theorem matrix_spec (b : Nat) (K : KV) (T : List DM) (q : KPtr) (w : World) (h : KerIn w b K T q) :
    Calls Try.prog 9 #[.pointer (some ⟨b, 0, none⟩)] w fun e w' => ∃ (g : Nat) (ss : List Int), e = .returned (.slice (some ⟨g, 0, none⟩) K.vars K.vars) ∧ SupL K K.roots ss ∧ MatR w g K.vars (ss.foldl (matRow K.vars) (List.replicate K.vars 0)) w' := by
  obtain ⟨i2, hi2, hz2, hs2, hb2⟩ := info_parts Try.infoU64
  have HI := Lib.hid (And.intro hi2 (And.intro hz2 (And.intro hs2 hb2)))
  have HK := Lib.hid h
  have hvs := h.ok.wf.vs
  clear h hi2 hz2 hs2 hb2
  go_enter Try.func9, Try.ntmps9
  go_wp2_with fail
  refine (vars_spec b K T q _ HK.out.mem).mono ?_
  rintro e w1 ⟨rfl, rfl⟩
  go_wp2_with (refine wpList_make_full _ rfl (.tmp 12) (.tmp 12) 35 rfl w1.heap.size 59 i2 (.int .u64 0) 1 Try.underlying35 HI.out.1 HI.out.2.1 HI.out.2.2.1 .i64 .i64 _ _ K.vars rfl rfl rfl rfl (by rw [HI.out.2.2.2]; omega) (by unfold maxLen; omega) (Nat.le_refl _) ?_)
  obtain ⟨g, hg⟩ : ∃ g, w1.heap.size = g := ⟨_, rfl⟩
  rw [hg]
  intro w2 ho hgr
  have HM0 : Hid (MatR w1 g K.vars (List.replicate K.vars 0) w2) := by
    refine ⟨?_, by simp, (Upd.refl [] w1).grown hgr (by simp)⟩
    rw [hg]
    have e : flatU (List.replicate K.vars 0) = (madeCells #[Value.int .u64 0] K.vars).toList := by
      rw [flatU, List.map_replicate]
      exact (madeU K.vars).symm
    rw [e]; exact ho
  clear ho hgr
  go_wp2_with fail
  refine (roots_spec b K T q _ (HK.out.upd HM0.out.up (by simp))).mono ?_
  rintro e w3 ⟨lv, rfl, hr3, hu3⟩
  obtain ⟨fa, fc, rfl, _⟩ := row_nil_len hr3
  have HM3 := Lib.hid (HM0.out.keep hu3)
  have HR := Lib.hid hr3
  have hrl : K.roots.length ≤ 1048576 := by
    have h1 := HK.out.ok.wf.len
    have h2 := HK.out.ok.wf.ul
    have h3 := HK.out.ok.wf.ok.lp
    have h4 := HK.out.ok.wf.ok.pm
    have h5 := K.rootsI_len K.holds.length
    show (K.rootsI _).length ≤ _
    omega
  have hg2 := (HM0.out.row.lt g rfl).2
  clear hr3 hu3 HM0
  go_wp2_with fail
  go_loopg [17] K.roots.length (fun gg s17 wr => ∃ (i : Nat) (ss : List Int), K.roots.length - i = gg ∧ i ≤ K.roots.length ∧ s17 = .int .i64 i ∧ SupL K (K.roots.take i) ss ∧ MatR w1 g K.vars (ss.foldl (matRow K.vars) (List.replicate K.vars 0)) wr ∧ Upd [g] w3 wr)
  case atStart => exact ⟨0, [], by omega, by omega, rfl, by simpa using SupL.nil K, HM3.out, Upd.refl _ _⟩
  case round =>
    obtain ⟨i, ss, rfl, hi, rfl, hF, hM, hU⟩ := hrel
    by_cases hlt : i < K.roots.length
    · obtain ⟨f, hf⟩ : ∃ f, K.roots[i]? = some f := ⟨_, List.getElem?_eq_getElem hlt⟩
      obtain ⟨gr, rfl⟩ := row_some HR.out (by omega)
      have hgr := HR.out.lt gr rfl
      have hgm := HM3.out.row.lt g rfl
      have hne : gr ≠ g := by
        omega
      have hrow := row_keep HR.out fun k hk => hU.block k (HR.out.lt k hk).2 (by simp [Value.ownBlock] at hk; subst hk; simpa using hne)
      have cf := row_cell hrow (j := i) (u := .int .u32 f) (by simp [flatRefs, hf])
      have htk : K.A.tk f = true := (HK.out.ok.wf.ht f (KV.mem_roots.1 (List.mem_of_getElem? hf))).2
      have hil : (i : Int) < (K.roots.length : Int) := by omega
      have HMi := Lib.hid (And.intro hM (And.intro hU (And.intro hF hf)))
      clear hM hU hF hf hrow
      go_wp2_with fail
      refine (support_spec b f K T q wr (HK.out.upd HMi.out.1.up (by simp)) htk).mono ?_
      rintro e w4 hQ
      obtain ⟨N, hN, rfl, hk4, hu4⟩ := hQ.ex
      have HS : Hid (SupIs K f (N.foldl (fun s x => supStep s (K.vof x)) 0)) := ⟨N, hN, rfl⟩
      generalize N.foldl (fun s x => supStep s (K.vof x)) 0 = s at HS
      have HM4 := Lib.hid (And.intro (HMi.out.1.keep hu4) (HMi.out.2.1.trans (hu4.mono (by simp)) : Upd [g] w3 w4))
      clear hQ hN hk4 hu4
      go_wp2_with fail
      go_loopg [29] K.vars (fun gg s29 wr2 => ∃ v : Nat, K.vars - v = gg ∧ v ≤ K.vars ∧ s29 = .int .i64 v ∧ MatR w1 g K.vars ((List.range v).foldl (matUpd s) (ss.foldl (matRow K.vars) (List.replicate K.vars 0))) wr2 ∧ Upd [g] w3 wr2)
      case atStart => exact ⟨0, by omega, by omega, rfl, HM4.out.1, HM4.out.2⟩
      case round =>
        obtain ⟨v, rfl, hv, rfl, hMv, hUv⟩ := hrel
        by_cases hvt : v < K.vars
        · have hvi : (v : Int) < (K.vars : Int) := by omega
          have hv64 : v < 64 := by omega
          generalize hMM : (List.range v).foldl (matUpd s) (ss.foldl (matRow K.vars) (List.replicate K.vars 0)) = MM at hMv
          have hmg : ∃ x, MM[v]? = some x := ⟨_, List.getElem?_eq_getElem (by rw [hMv.len]; exact hvt)⟩
          obtain ⟨x, hx⟩ := hmg
          have cx := row_cell hMv.row (j := v) (u := .int .u64 x) (by simp [flatU, hx])
          have fx := row_frozen hMv.row v
          have HMV := Lib.hid (And.intro hMv (And.intro hUv (And.intro hMM hx)))
          clear hMv hUv hMM hx
          cases hbt : (bits BinOp.and IntKind.u64 (s / 2 ^ v) 1 == 1) with
          | true =>
            have HN : Hid ((List.range (v + 1)).foldl (matUpd s) (ss.foldl (matRow K.vars) (List.replicate K.vars 0)) = MM.set v (orNotT x s v)) := by
              show _ = _
              rw [List.range_succ, List.foldl_append, HMV.out.2.2.1]
              simp only [List.foldl_cons, List.foldl_nil, matUpd]
              rw [show bitT s v = true from hbt, if_pos rfl, List.getD_eq_getElem?_getD, HMV.out.2.2.2]; rfl
            go_wp2_with fail
            go_region
            go_wp2_with fail
            go_roundg (K.vars - (v + 1))
            case measure => omega
            case rel =>
              refine ⟨v + 1, rfl, by omega, by simp, ?_, ?_⟩
              · rw [HN.out]
                exact (HMV.out.1.set hvt (orNotT x s v)).keep ((Upd.refl [] _).drew)
              · exact (HMV.out.2.1.setCell (p := ⟨g, v, none⟩) (.inl (by simp)) _).drew
          | false =>
            have HN : Hid ((List.range (v + 1)).foldl (matUpd s) (ss.foldl (matRow K.vars) (List.replicate K.vars 0)) = MM) := by
              show _ = _
              rw [List.range_succ, List.foldl_append, HMV.out.2.2.1]
              simp only [List.foldl_cons, List.foldl_nil, matUpd]
              rw [show bitT s v = false from hbt]; rfl
            go_wp2_with fail
            go_roundg (K.vars - (v + 1))
            case measure => omega
            case rel => exact ⟨v + 1, rfl, by omega, by simp, by rw [HN.out]; exact HMV.out.1, HMV.out.2.1⟩
        · obtain rfl : v = K.vars := by omega
          have hvi : ¬ ((K.vars : Int) < (K.vars : Int)) := by omega
          have HE := Lib.hid (And.intro hMv (And.intro hUv (HMi.out.2.2.1.snoc HS.out)))
          clear hMv hUv
          go_wp2_with fail
          go_roundg (K.roots.length - (i + 1))
          case measure => omega
          case rel =>
            refine ⟨i + 1, ss ++ [s], rfl, by omega, by simp, ?_, ?_, HE.out.2.1⟩
            · rw [List.take_add_one, HMi.out.2.2.2]; exact HE.out.2.2
            · rw [List.foldl_append]; exact HE.out.1
    · obtain rfl : i = K.roots.length := by omega
      have hil : ¬ ((K.roots.length : Int) < (K.roots.length : Int)) := by omega
      rw [List.take_length] at hF
      have HE := Lib.hid (And.intro hF hM)
      clear hF hM hU
      go_wp2_with fail
      go_ret
      exact ⟨g, rfl, ss, HE.out⟩
end Go.Proofs.Ytnenhecnkidnpaa
