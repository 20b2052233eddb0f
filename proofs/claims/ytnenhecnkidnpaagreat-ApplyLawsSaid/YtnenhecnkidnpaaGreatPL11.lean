/- The operations on a kernel. -/
import Derived.Test.YtnenhecnkidnpaaGreatPL10
import Derived.Test.YtnenhecnkidnpaaGreatPL7
import Derived.Test.YtnenhecnkidnpaaGreatPL8
import Derived.Deep.QuietTactic
namespace Go.Proofs.YtnenhecnkidnpaaGreat
open Go.RowKit Go.Maps Go.ChangeMaps Go.WideShapes

/-- what an operation answers and leaves -/
structure OpPost (b : Nat) (K0 : KV) (q : KPtr) (t : (Nat → Bool) → Bool) (w : World) (e : Ending) (w' : World) : Prop where
  ex : ∃ (r : Nat) (code : Int) (K' : KV) (T' : List DM) (q' : KPtr), e = .returned (.tuple #[.int .u32 r, .int .i64 code]) ∧ OpR K0 t r code K' ∧ KerIn w' b K' T' q' ∧ Upd (q.all b) w w' ∧ Sub (q.all b) w (q'.all b)

theorem OpPost.of_run {b wb f g h : Nat} {K0 : KV} {q : KPtr} {L : Bool → Bool → Bool → Bool} {lvv : Value} {w w1 w' : World} {e : Ending} (hk : K0.Ok) (hA : AskQ K0 f g h) (hu : Upd [] w w1) (hF : ∀ k, k ∈ workF wb lvv (.slice none 0 0) → w.heap.size ≤ k)
    (R : RunPost b K0 q L f g h (wkF wb b q lvv (.slice none 0 0)) w1 e w') : OpPost b K0 q (K0.fun3 L f g h) w e w' := by
  obtain ⟨r, code, K1, M, K', T', q', rfl, S, h1, hu1, X, hk', hu', hs'⟩ := R.ex
  have hin : ∀ k, k ∈ wkF wb b q lvv (.slice none 0 0) → k ∈ q.all b ∨ w.heap.size ≤ k := fun k hk => by
    rcases List.mem_append.1 hk with h | h
    · exact .inl h
    · exact .inr (hF k h)
  have hsz := hu.size
  refine ⟨_, _, K', T', q', rfl, op_of hk h1 hk'.ok hA S X, hk', (hu.mono (by simp) : Upd (q.all b) w w1).then hu' hin, fun k hk => ?_⟩
  rcases hs' k hk with h | h
  · exact hin k h
  · right; omega

set_option maxRecDepth 100000 in
set_option maxHeartbeats 1600000 in
theorem binary_live (b op f g : Nat) (K : KV) (T : List DM) (q : KPtr) (w : World) (h : KerIn w b K T q) (ho : op ≤ 15) (hf : K.A.tk f = true) (hg : K.A.tk g = true) :
    Calls Tryz.prog 19 #[.pointer (some ⟨b, 0, none⟩), .int .u8 op, .int .u32 f, .int .u32 g] w fun e w' => OpPost b K q (K.fun3 (fun x y _ => opB op x y) f g 0) w e w' := by
  have hmf : ∀ (fn : Fn) (first cap : Array Value) (w : World), (Instr.makeFunc fn first cap).run Tryz.prog w = .ok (.func fn first cap) w := fun _ _ _ _ => rfl
  have hob : decide ((15 : Int) < (op : Int)) = false := by simp; omega
  have hob2 : decide (15 < op) = false := by simp; omega
  have HK := Lib.hid h
  have HA : Hid (AskQ K f g 0) := ⟨hf, hg, h.ok.wf.ok.tk01.1⟩
  have HBX : Hid ((w.alloc (.cells #[.int .u8 op] 5 (0, 0))).heap[w.heap.size]? = some (.cells #[.int .u8 op] 5 (0, 0))) := heap_alloc_new w _
  have x0 := cell_at (j := 0) HBX.out rfl
  have HROW : Hid (((w.alloc (.cells #[.int .u8 op] 5 (0, 0))).alloc (.cells #[.int .u32 f, .int .u32 g] 36 (0, 0))).ownsRow 0 36 1 (.slice (some ⟨w.heap.size + 1, 0, none⟩) 2 2) [f, g].length (flatRefs [f, g])) := by
    have := World.ownsRow_lit (base := 0) (e := 36) (size := 1) (w.alloc (.cells #[.int .u8 op] 5 (0, 0))) #[.int .u32 f, .int .u32 g] 2 (Nat.zero_le _) (by unfold maxLen; omega) rfl
    rw [World.size_alloc] at this
    exact this
  have HU : Hid (Upd [] w ((w.alloc (.cells #[.int .u8 op] 5 (0, 0))).alloc (.cells #[.int .u32 f, .int .u32 g] 36 (0, 0)))) := ((Upd.refl [] w).alloc _).alloc _
  have HL : Hid (∀ r, r ∈ [f, g] → K.A.tk r = true) := fun r hr => by
    simp only [List.mem_cons, List.not_mem_nil, or_false] at hr
    rcases hr with rfl | rfl
    · exact hf
    · exact hg
  clear h hf hg
  go_enter Tryz.func19, Tryz.ntmps19
  go_wp2_with fail
  refine (begin_ok b K T q _ [f, g] _ (HK.out.upd HU.out (by simp)) HROW.out HL.out (by simp)).mono ?_
  rintro e w1 ⟨wb, lvv, rfl, hW, hu, hF⟩
  have hsz := HU.out.size
  have HB1 : Hid (w1.heap[w.heap.size]? = some (.cells #[.int .u8 op] 5 (0, 0))) := (hu.block _ (by rw [World.size_alloc, World.size_alloc]; omega) (by simp)).trans ((heap_alloc_old _ _ (heap_lt HBX.out)).trans HBX.out)
  have HW := Lib.hid (And.intro hW (And.intro (HU.out.trans hu) (fun k hk => Nat.le_trans hsz (hF k hk) : ∀ k, k ∈ workF wb lvv (.slice none 0 0) → w.heap.size ≤ k)))
  have HLF : Hid (LeafOk w1 57 #[.pointer (some ⟨w.heap.size, 0, none⟩)] [w.heap.size] (fun x y _ => opB op x y)) := fun w' hw' x y z => by
    have e := (hw' w.heap.size (by simp)).trans HB1.out
    exact leafB_spec op w.heap.size x y z w' ho (cell_at e rfl)
  have HDJ : Hid (∀ k, k ∈ wkF wb b q lvv (.slice none 0 0) → k ∉ [w.heap.size]) := fun k hk hm => by
    simp only [List.mem_singleton] at hm
    subst hm
    rcases List.mem_append.1 hk with h1 | h1
    · have := HK.out.mem.lt _ h1; omega
    · have := hF _ h1
      rw [World.size_alloc, World.size_alloc] at this; omega
  clear hW hu hF x0
  go_wp2_with fail
  refine (wrun_spec wb b 57 f g 0 #[.pointer (some ⟨w.heap.size, 0, none⟩)] [w.heap.size] (fun x y _ => opB op x y) K T q lvv w1 HW.out.1 HA.out HLF.out (fun k hk => by simp only [List.mem_singleton] at hk; subst hk; exact heap_lt HB1.out) HDJ.out enters_B).mono ?_
  rintro e w2 hR
  obtain ⟨r, code, K', T', q', rfl, hE⟩ := (OpPost.of_run HK.out.ok HA.out HW.out.2.1 HW.out.2.2 hR).ex
  have HE := Lib.hid hE
  clear hR hE
  go_wp2_with fail
  go_ret2
  exact ⟨r, code, K', T', q', rfl, HE.out⟩

/-! ### if-then-else -/

set_option maxRecDepth 100000 in
set_option maxHeartbeats 1600000 in
theorem ite_live (b f g h : Nat) (K : KV) (T : List DM) (q : KPtr) (w : World) (hk : KerIn w b K T q) (hf : K.A.tk f = true) (hg : K.A.tk g = true) (hh : K.A.tk h = true) :
    Calls Tryz.prog 20 #[.pointer (some ⟨b, 0, none⟩), .int .u32 f, .int .u32 g, .int .u32 h] w fun e w' => OpPost b K q (K.fun3 (fun x y z => if x then y else z) f g h) w e w' := by
  have HK := Lib.hid hk
  have HA : Hid (AskQ K f g h) := ⟨hf, hg, hh⟩
  have HROW : Hid ((w.alloc (.cells #[.int .u32 f, .int .u32 g, .int .u32 h] 36 (0, 0))).ownsRow 0 36 1 (.slice (some ⟨w.heap.size, 0, none⟩) 3 3) [f, g, h].length (flatRefs [f, g, h])) :=
    World.ownsRow_lit (base := 0) (e := 36) (size := 1) w #[.int .u32 f, .int .u32 g, .int .u32 h] 3 (Nat.zero_le _) (by unfold maxLen; omega) rfl
  have HU : Hid (Upd [] w (w.alloc (.cells #[.int .u32 f, .int .u32 g, .int .u32 h] 36 (0, 0)))) := (Upd.refl [] w).alloc _
  have HL : Hid (∀ r, r ∈ [f, g, h] → K.A.tk r = true) := fun r hr => by
    simp only [List.mem_cons, List.not_mem_nil, or_false] at hr
    rcases hr with rfl | rfl | rfl
    · exact hf
    · exact hg
    · exact hh
  clear hk hf hg hh
  go_enter Tryz.func20, Tryz.ntmps20
  go_wp2_with fail
  refine (begin_ok b K T q _ [f, g, h] _ (HK.out.upd HU.out (by simp)) HROW.out HL.out (by simp)).mono ?_
  rintro e w1 ⟨wb, lvv, rfl, hW, hu, hF⟩
  have hsz := HU.out.size
  have HW := Lib.hid (And.intro hW (And.intro (HU.out.trans hu) (fun k hk => Nat.le_trans hsz (hF k hk) : ∀ k, k ∈ workF wb lvv (.slice none 0 0) → w.heap.size ≤ k)))
  have HLF : Hid (LeafOk w1 59 #[] [] (fun x y z => if x then y else z)) := fun w' _ x y z => leafI_spec x y z w'
  clear hW hu hF
  go_wp2_with fail
  refine (wrun_spec wb b 59 f g h #[] [] (fun x y z => if x then y else z) K T q lvv w1 HW.out.1 HA.out HLF.out (fun k hk => by simp at hk) (fun k _ hk => by simp at hk) enters_I).mono ?_
  rintro e w2 hR
  obtain ⟨r, code, K', T', q', rfl, hE⟩ := (OpPost.of_run HK.out.ok HA.out HW.out.2.1 HW.out.2.2 hR).ex
  have HE := Lib.hid hE
  clear hR hE
  go_wp2_with fail
  go_ret2
  exact ⟨r, code, K', T', q', rfl, HE.out⟩

/-! ### of no kernel -/

end Go.Proofs.YtnenhecnkidnpaaGreat


/- How many nodes there are; the functions below a function; the first example, as data. -/
namespace Go.Proofs.YtnenhecnkidnpaaGreat

/-- what is live -/
def KV.lives (K : KV) : List Nat := (List.range K.A.list.length).filter fun r => K.A.tk r

theorem KV.mem_lives {K : KV} {x : Nat} : x ∈ K.lives ↔ K.A.tk x = true := by
  simp only [KV.lives, List.mem_filter, List.mem_range]
  exact ⟨fun h => h.2, fun h => ⟨ArenaV.tk_lt h, h⟩⟩

theorem KV.lives_nodup (K : KV) : K.lives.Nodup := List.Pairwise.filter _ List.nodup_range

theorem KV.lives_len {K : KV} {P : List Nat} (h : K.Wf P) : K.lives.length = K.A.used := by
  have hus := h.ok.us
  have e1 : K.A.free.length = ((List.range K.A.list.length).filter fun r => !(K.A.tk r)).length := by
    have hfr : ∀ r, r ∈ K.A.free ↔ r ∈ (List.range K.A.list.length).filter fun r => !(K.A.tk r) := by
      intro r
      rw [h.ok.fr r, List.mem_filter, List.mem_range]
      constructor
      · rintro ⟨p, hp, hpt⟩
        refine ⟨(List.getElem?_eq_some_iff.1 hp).1, ?_⟩
        simp [ArenaV.tk, hp, hpt]
      · rintro ⟨hl, ht⟩
        refine ⟨K.A.list[r], List.getElem?_eq_getElem hl, ?_⟩
        simpa [ArenaV.tk, List.getElem?_eq_getElem hl] using ht
    refine Nat.le_antisymm ?_ ?_
    · exact List.Nodup.length_le_of_subset h.ok.nd fun r hr => (hfr r).1 hr
    · exact List.Nodup.length_le_of_subset (List.Pairwise.filter _ List.nodup_range) fun r hr => (hfr r).2 hr
  have e2 : (List.range K.A.list.length).length = K.lives.length + ((List.range K.A.list.length).filter fun r => !(K.A.tk r)).length := by
    rw [KV.lives, ← List.countP_eq_length_filter, ← List.countP_eq_length_filter]
    have hh := List.length_eq_countP_add_countP (fun r => K.A.tk r) (l := List.range K.A.list.length)
    rw [hh]
    congr 2
    funext a
    cases K.A.tk a <;> rfl
  rw [List.length_range] at e2
  omega

theorem KV.used_le {K : KV} {P : List Nat} (h : K.Wf P) {l : List Nat} (hl : ∀ x, K.A.tk x = true → x ∈ l) : K.A.used ≤ l.length := by
  rw [← K.lives_len h]
  exact List.Nodup.length_le_of_subset K.lives_nodup fun x hx => hl x (KV.mem_lives.1 hx)

theorem KV.used_ge {K : KV} {P : List Nat} (h : K.Wf P) {l : List Nat} (hn : l.Nodup) (hl : ∀ x, x ∈ l → K.A.tk x = true) : l.length ≤ K.A.used := by
  rw [← K.lives_len h]
  exact List.Nodup.length_le_of_subset hn fun x hx => KV.mem_lives.2 (hl x hx)

/-- What is below a live function is live. -/
theorem KV.sub_live {K : KV} (hk : K.Ok) (l : Nat) (a : Nat → Bool) : ∀ (n r : Nat), K.vars - K.dep r ≤ n → K.A.tk r = true → ∃ x, K.A.tk x = true ∧ ∀ y, K.den x y = K.den r (K.mix l a y)
  | n, r, hn, ht => by
    by_cases hl : l ≤ K.dep r
    · refine ⟨r, ht, fun y => KV.den_same hk.wf hk.ord _ r _ _ ht (Nat.le_refl _) fun v hv hd => ?_⟩
      simp only [KV.mix]
      rw [if_neg (by omega)]
    · by_cases h2 : 2 ≤ r
      · obtain ⟨p, v, hp, hpt, hv, hvl, h3, h4, hd⟩ := hk.wf.node_at h2 ht
        have hb := hk.ord.below hk.wf h2 hp hpt
        have hdl := hk.wf.dep_lt hk.ord h2 ht
        have hlo := hk.wf.dep_le hk.ord h3
        have hhi := hk.wf.dep_le hk.ord h4
        match n, hn with
        | 0, hn => omega
        | n + 1, hn =>
          have em : ∀ y, K.mix l a y v = a v := fun y => by simp only [KV.mix]; rw [if_pos ⟨hvl, by omega⟩]
          have e : ∀ y, K.den r (K.mix l a y) = if a v then K.den p.hi (K.mix l a y) else K.den p.lo (K.mix l a y) := fun y => by
            rw [KV.den_node hk.wf hk.ord h2 hp hpt, show p.var.toNat = v by omega, em]
          cases ha : a v with
          | true =>
            obtain ⟨x, tx, hx⟩ := KV.sub_live hk l a n p.hi (by omega) h4
            exact ⟨x, tx, fun y => by rw [hx, e, ha]; simp⟩
          | false =>
            obtain ⟨x, tx, hx⟩ := KV.sub_live hk l a n p.lo (by omega) h3
            exact ⟨x, tx, fun y => by rw [hx, e, ha]; simp⟩
      · refine ⟨r, ht, fun y => ?_⟩
        rw [K.den_const (by omega), K.den_const (by omega)]

/-- where t is live there is always room for it -/
theorem KV.fit_live {K0 : KV} (h0 : K0.Ok) {t : (Nat → Bool) → Bool} {r : Nat} (ht : K0.A.tk r = true) (hd : ∀ x, K0.den r x = t x) : ¬ NoFit K0 (K0.SubN t) := by
  rintro ⟨K, M, g, hk, hu, R, hus, ⟨l, a, hg⟩, hno⟩
  obtain ⟨x, tx, hx⟩ := KV.sub_live h0 l a _ r (Nat.le_refl _) ht
  refine hno x (R.ext.tk tx) fun y => ?_
  rw [R.ext.den h0.wf y tx, hx, hd, hg]

/-- Where t is live, and not held as often as can be, the answer is t's Ref. -/
theorem OpR.live {K0 K' : KV} (h0 : K0.Ok) (h' : K'.Ok) (u' : K'.Uni) {t : (Nat → Bool) → Bool} {s r : Nat} {code : Int} (O : OpR K0 t r code K') (u0 : K0.Uni) (ht : K0.A.tk s = true) (hd : ∀ x, K0.den s x = t x) (hh : K0.hold s < 65535) :
    code = 0 ∧ r = s ∧ OpOk K0 t s K' := by
  rcases O with ⟨rfl, hO⟩ | ⟨_, _, _, s', t', d', f'⟩ | ⟨_, _, _, hno⟩
  · have : r = s := KV.canon h'.wf h'.ord u' _ _ _ hO.tk (hO.ext.tk ht) (Nat.le_refl _) fun x => by rw [hO.den, hO.ext.den h0.wf x ht, hd]
    subst this
    exact ⟨rfl, rfl, hO⟩
  · exfalso
    have : s' = s := KV.canon h0.wf h0.ord u0 _ _ _ t' ht (Nat.le_refl _) fun x => by rw [d', hd]
    subst this
    omega
  · exact (KV.fit_live h0 ht hd hno).elim

/-- Where t is live, nothing new stands behind it. -/
theorem OpOk.same {K0 K' : KV} (h0 : K0.Ok) (h' : K'.Ok) (u' : K'.Uni) {t : (Nat → Bool) → Bool} {s r : Nat} (O : OpOk K0 t r K') (ht : K0.A.tk s = true) (hd : ∀ x, K0.den s x = t x) (x : Nat) : K'.A.tk x = true ↔ K0.A.tk x = true := by
  refine ⟨fun hx => ?_, fun hx => O.ext.tk hx⟩
  cases h : K0.A.tk x with
  | true => rfl
  | false =>
    exfalso
    obtain ⟨l, a, hg⟩ := O.new x hx h
    obtain ⟨z, tz, hz⟩ := KV.sub_live h0 l a _ s (Nat.le_refl _) ht
    have : x = z := KV.canon h'.wf h'.ord u' _ _ _ hx (O.ext.tk tz) (Nat.le_refl _) fun y => by rw [hg, O.ext.den h0.wf y tz, hz, hd]
    subst this
    rw [h] at tz; cases tz
end Go.Proofs.YtnenhecnkidnpaaGreat


/- Package count: what goes through the nodes below a function. -/
namespace Go.Proofs.YtnenhecnkidnpaaGreat
open Go.RowKit Go.Maps Go.ChangeMaps Go.WideShapes

/-- the bit of a variable, as the code reckons it -/
def supStep (s : Int) (n : Nat) : Int := bits BinOp.or IntKind.u64 s (IntKind.u64.wrap (2 ^ n))

/-! ### the walk below a function -/

/-- what has been seen, as a map -/
structure SeenOk (V : List Nat) (D : DM) : Prop where
  im : IsMap D
  has : ∀ r : Nat, r ≤ 4294967295 → (Maps.has D (.int .u32 r) = true ↔ r ∈ V)
  at_ : ∀ r : Nat, r ≤ 4294967295 → Maps.has D (.int .u32 r) = true → ∀ z, D.atKey (.int .u32 r) z = .lit (.int .i64 1)
  dom : ∀ k, Maps.has D k = true → ∃ r : Nat, k = .int .u32 r ∧ r < 1048576

theorem SeenOk.nil : SeenOk [] (.map []) := ⟨isMap_empty, fun r _ => by simp [Maps.has], fun r _ h => by simp [Maps.has] at h, fun k h => by simp [Maps.has] at h⟩

theorem SeenOk.put {V : List Nat} {D : DM} {r : Nat} (h : SeenOk V D) (hr : r < 1048576) : SeenOk (V ++ [r]) (D.put (.int .u32 r) (.lit (.int .i64 1))) := by
  have hl : WideAt.IsKeyLit (.int .u32 (r : Int)) := trivial
  have inj : ∀ x : Nat, x ≠ r → (Lit.int .u32 (x : Int)) ≠ .int .u32 (r : Int) := fun x hx e => hx (by simp at e; omega)
  refine ⟨h.im.put _ _, fun x hx => ?_, fun x hx hh z => ?_, fun k hk => ?_⟩
  · by_cases e : x = r
    · subst e; simp [has_put_same h.im hl]
    · rw [has_put_other (inj x e), h.has x hx]; simp [e]
  · by_cases e : x = r
    · subst e; exact atKey_put_same h.im hl _ z
    · rw [has_put_other (inj x e)] at hh
      rw [atKey_put_other (inj x e)]; exact h.at_ x hx hh z
  · by_cases e : k = .int .u32 (r : Int)
    · exact ⟨r, e, hr⟩
    · rw [has_put_other e] at hk; exact h.dom k hk

/-- the walk's memory -/
structure WalkM (w : World) (b ck ckk cf cw mb sb fl : Nat) (caps : Array Value) (ty : TypeId) (enc : Int → Value) (K : KV) (T : List DM) (q : KPtr) (D : DM) (s : Int) : Prop where
  ker : KerIn w b K T q
  bk : w.heap[ck]? = some (.cells #[.map (some mb)] 162 (0, 0))
  bkk : w.heap[ckk]? = some (.cells #[.pointer (some ⟨b, 0, none⟩)] 26 (0, 0))
  bf : w.heap[cf]? = some (.cells #[.func (Fn.func fl) #[] caps] 170 (0, 0))
  bw : w.heap[cw]? = some (.cells #[.func (Fn.func 155) #[] #[.pointer (some ⟨ck, 0, none⟩), .pointer (some ⟨ckk, 0, none⟩), .pointer (some ⟨cf, 0, none⟩), .pointer (some ⟨cw, 0, none⟩)]] 138 (0, 0))
  bs : w.heap[sb]? = some (.cells #[enc s] ty (0, 0))
  map : w.ownsMap Tryz.prog 36 (plainElem Tryz.prog 3) mb (Maps.size D) D
  dq : ∀ k, k ∈ q.all b → k ≠ ck ∧ k ≠ ckk ∧ k ≠ cf ∧ k ≠ cw ∧ k ≠ mb ∧ k ≠ sb
  dm : mb ≠ ck ∧ mb ≠ ckk ∧ mb ≠ cf ∧ mb ≠ cw ∧ mb ≠ sb
  ds : sb ≠ ck ∧ sb ≠ ckk ∧ sb ≠ cf ∧ sb ≠ cw

theorem WalkM.keep {w w' : World} {b ck ckk cf cw mb sb fl : Nat} {caps : Array Value} {ty : TypeId} {enc : Int → Value} {K : KV} {T : List DM} {q : KPtr} {D : DM} {s : Int} (h : WalkM w b ck ckk cf cw mb sb fl caps ty enc K T q D s) (u : Upd [] w w') :
    WalkM w' b ck ckk cf cw mb sb fl caps ty enc K T q D s := by
  have e : ∀ {k : Nat} {o : Obj}, w.heap[k]? = some o → w'.heap[k]? = some o := fun {k o} hk => by rw [u.block k (heap_lt hk) (by simp)]; exact hk
  exact ⟨h.ker.upd u (by simp), e h.bk, e h.bkk, e h.bf, e h.bw, e h.bs, own_keep h.map (u.block _ h.map.lt (by simp)), h.dq, h.dm, h.ds⟩

theorem WalkM.state {w w' : World} {b ck ckk cf cw mb sb fl : Nat} {caps : Array Value} {ty : TypeId} {enc : Int → Value} {K : KV} {T : List DM} {q : KPtr} {D : DM} {s s' : Int} (h : WalkM w b ck ckk cf cw mb sb fl caps ty enc K T q D s) (u : Upd [sb] w w') (hs : w'.heap[sb]? = some (.cells #[enc s'] ty (0, 0))) :
    WalkM w' b ck ckk cf cw mb sb fl caps ty enc K T q D s' := by
  have e : ∀ {k : Nat} {o : Obj}, sb ≠ k → w.heap[k]? = some o → w'.heap[k]? = some o := fun {k o} hn hk => by rw [u.block k (heap_lt hk) (by simp; exact Ne.symm hn)]; exact hk
  exact ⟨h.ker.upd u (fun k hk hm => by simp at hm; exact (h.dq k hk).2.2.2.2.2 hm), e h.ds.1 h.bk, e h.ds.2.1 h.bkk, e h.ds.2.2.1 h.bf, e h.ds.2.2.2 h.bw, hs, own_keep h.map (u.block _ h.map.lt (by simp; exact h.dm.2.2.2.2)), h.dq, h.dm, h.ds⟩

theorem WalkM.seen {w w' : World} {b ck ckk cf cw mb sb fl : Nat} {caps : Array Value} {ty : TypeId} {enc : Int → Value} {K : KV} {T : List DM} {q : KPtr} {D D' : DM} {s : Int} (h : WalkM w b ck ckk cf cw mb sb fl caps ty enc K T q D s) (u : Upd [mb] w w') (hm : w'.ownsMap Tryz.prog 36 (plainElem Tryz.prog 3) mb (Maps.size D') D') :
    WalkM w' b ck ckk cf cw mb sb fl caps ty enc K T q D' s := by
  have e : ∀ {k : Nat} {o : Obj}, mb ≠ k → w.heap[k]? = some o → w'.heap[k]? = some o := fun {k o} hn hk => by rw [u.block k (heap_lt hk) (by simp; exact Ne.symm hn)]; exact hk
  exact ⟨h.ker.upd u (fun k hk hm => by simp at hm; exact (h.dq k hk).2.2.2.2.1 hm), e h.dm.1 h.bk, e h.dm.2.1 h.bkk, e h.dm.2.2.1 h.bf, e h.dm.2.2.2.1 h.bw, e h.dm.2.2.2.2 h.bs, hm, h.dq, h.dm, h.ds⟩

end Go.Proofs.YtnenhecnkidnpaaGreat


/- The walk below a function. -/
namespace Go.Proofs.YtnenhecnkidnpaaGreat
open Go.RowKit Go.Maps Go.ChangeMaps Go.WideShapes

/-- x stands below r, or is r -/
inductive KV.Under (K : KV) (r : Nat) : Nat → Prop
  | refl (h : 2 ≤ r) : K.Under r r
  | lo {x : Nat} {p : PlaceV} (h : K.Under r x) (hp : K.A.list[x]? = some p) (h2 : 2 ≤ p.lo) : K.Under r p.lo
  | hi {x : Nat} {p : PlaceV} (h : K.Under r x) (hp : K.A.list[x]? = some p) (h2 : 2 ≤ p.hi) : K.Under r p.hi

theorem KV.Under.trans {K : KV} {r s x : Nat} (h : K.Under r s) (k : K.Under s x) : K.Under r x := by
  induction k with
  | refl _ => exact h
  | lo _ hp h2 ih => exact .lo ih hp h2
  | hi _ hp h2 ih => exact .hi ih hp h2

/-- what a walk from r adds to what was seen -/
structure WalkN (K : KV) (V : List Nat) (r : Nat) (N : List Nat) : Prop where
  nd : (V ++ N).Nodup
  has : 2 ≤ r → r ∈ V ++ N
  two : ∀ x, x ∈ N → 2 ≤ x ∧ K.A.tk x = true
  under : ∀ x, x ∈ N → K.Under r x
  kids : ∀ (x : Nat) (p : PlaceV), x ∈ N → K.A.list[x]? = some p → (p.lo < 2 ∨ p.lo ∈ V ++ N) ∧ (p.hi < 2 ∨ p.hi ∈ V ++ N)

theorem WalkN.none {K : KV} {V : List Nat} {r : Nat} (hv : V.Nodup) (h : r < 2 ∨ r ∈ V) : WalkN K V r [] :=
  ⟨by simpa using hv, fun h2 => by rcases h with h | h; · omega
                                   · simpa using h, by simp, by simp, by simp⟩

theorem WalkN.node {K : KV} {V N0 N1 : List Nat} {r : Nat} {p : PlaceV} (h2 : 2 ≤ r) (ht : K.A.tk r = true) (hp : K.A.list[r]? = some p) (W0 : WalkN K (V ++ [r]) p.lo N0) (W1 : WalkN K (V ++ [r] ++ N0) p.hi N1) :
    WalkN K V r (r :: (N0 ++ N1)) := by
  have e : V ++ r :: (N0 ++ N1) = V ++ [r] ++ N0 ++ N1 := by simp
  have in0 : ∀ x, x ∈ V ++ [r] ++ N0 → x ∈ V ++ r :: (N0 ++ N1) := fun x hx => by rw [e]; exact List.mem_append.2 (.inl hx)
  have in1 : ∀ x, x ∈ V ++ [r] ++ N0 ++ N1 → x ∈ V ++ r :: (N0 ++ N1) := fun x hx => by rw [e]; exact hx
  refine ⟨by rw [e]; exact W1.nd, fun _ => by simp, fun x hx => ?_, fun x hx => ?_, fun x c hx hc => ?_⟩
  · rcases List.mem_cons.1 hx with rfl | hx
    · exact ⟨h2, ht⟩
    · rcases List.mem_append.1 hx with hx | hx
      · exact W0.two x hx
      · exact W1.two x hx
  · have ulo : 2 ≤ p.lo → K.Under r p.lo := fun h => .lo (.refl h2) hp h
    have uhi : 2 ≤ p.hi → K.Under r p.hi := fun h => .hi (.refl h2) hp h
    have start : ∀ {s x : Nat}, K.Under s x → 2 ≤ s := by
      intro s x h
      induction h with
      | refl h => exact h
      | lo _ _ _ ih => exact ih
      | hi _ _ _ ih => exact ih
    rcases List.mem_cons.1 hx with rfl | hx
    · exact .refl h2
    · rcases List.mem_append.1 hx with hx | hx
      · have := W0.under x hx
        exact (ulo (start this)).trans this
      · have := W1.under x hx
        exact (uhi (start this)).trans this
  · rcases List.mem_cons.1 hx with rfl | hx
    · rw [hp] at hc; cases hc
      refine ⟨?_, ?_⟩
      · by_cases h : p.lo < 2
        · exact .inl h
        · exact .inr (in0 _ (W0.has (by omega)))
      · by_cases h : p.hi < 2
        · exact .inl h
        · exact .inr (in1 _ (W1.has (by omega)))
    · rcases List.mem_append.1 hx with hx | hx
      · have := W0.kids x c hx hc
        exact ⟨this.1.imp_right (in0 _), this.2.imp_right (in0 _)⟩
      · have := W1.kids x c hx hc
        exact ⟨this.1.imp_right (in1 _), this.2.imp_right (in1 _)⟩

/-- the variable of a node -/
def KV.vof (K : KV) (x : Nat) : Nat := match K.A.list[x]? with | some p => p.var.toNat | none => 0

end Go.Proofs.YtnenhecnkidnpaaGreat


/- Package count: below, live, Support. -/
namespace Go.Proofs.YtnenhecnkidnpaaGreat
open Go.RowKit Go.Maps Go.ChangeMaps Go.WideShapes

/-- walks from a list -/
inductive WalkL (K : KV) : List Nat → List Nat → List Nat → Prop
  | nil (V : List Nat) : WalkL K V [] []
  | cons {V N N' : List Nat} {r : Nat} {rs : List Nat} (h : WalkN K V r N) (t : WalkL K (V ++ N) rs N') : WalkL K V (r :: rs) (N ++ N')

end Go.Proofs.YtnenhecnkidnpaaGreat


/- interact.Matrix. -/
namespace Go.Proofs.YtnenhecnkidnpaaGreat
open Go.RowKit Go.Maps Go.ChangeMaps Go.WideShapes

theorem Tryz.infoU64 : (Tryz.prog.info? 65).map (fun i => (i.zero, i.size, i.bytes)) = some (some (.int .u64 0), 1, 8) := by kernel_rfl

def flatU (l : List Int) : List Value := l.map fun n => Value.int .u64 n

/-- s is what Support says of r -/
def SupIs (K : KV) (r : Nat) (s : Int) : Prop := ∃ N : List Nat, WalkL K [] [r] N ∧ s = N.foldl (fun s x => supStep s (K.vof x)) 0

def SupL (K : KV) (rs : List Nat) (ss : List Int) : Prop := ss.length = rs.length ∧ ∀ (i r : Nat) (s : Int), rs[i]? = some r → ss[i]? = some s → SupIs K r s

theorem SupL.nil (K : KV) : SupL K [] [] := ⟨rfl, fun i r s h => by simp at h⟩
def bitT (s : Int) (v : Nat) : Bool := bits BinOp.and IntKind.u64 (s / 2 ^ v) 1 == 1
theorem madeU (n : Nat) : (madeCells #[Value.int .u64 0] n).toList = List.replicate n (Value.int .u64 0) := by
  apply List.ext_getElem?
  intro i
  by_cases hi : i < n
  · simp [madeCells, hi, Nat.mod_one]
  · simp [madeCells, hi]

/-- the loops of Matrix, in memory -/
structure MatR (w : World) (g n : Nat) (M : List Int) (wr : World) : Prop where
  row : wr.ownsRow w.heap.size 65 1 (.slice (some ⟨g, 0, none⟩) n n) n (flatU M)
  len : M.length = n
  up : Upd [] w wr

theorem MatR.keep {w wr w2 : World} {g n : Nat} {M : List Int} (h : MatR w g n M wr) (u : Upd [] wr w2) : MatR w g n M w2 :=
  ⟨row_keep h.row fun k hk => u.block k (h.row.lt k hk).2 (by simp), h.len, h.up.trans u⟩

theorem MatR.set {w wr : World} {g n v : Nat} {M : List Int} (h : MatR w g n M wr) (hv : v < n) (x : Int) : MatR w g n (M.set v x) (wr.setCell ⟨g, v, none⟩ (.int .u64 x)) := by
  refine ⟨?_, by simpa using h.len, h.up.setCell (p := ⟨g, v, none⟩) (.inr (h.row.lt g rfl).1) _⟩
  have := row_set h.row (j := v) (by omega) (.int .u64 x)
  have e : (flatU M).set v (.int .u64 x) = flatU (M.set v x) := by simp [flatU, List.map_set]
  rw [← e]; exact this

end Go.Proofs.YtnenhecnkidnpaaGreat


/- interact.Free. -/
namespace Go.Proofs.YtnenhecnkidnpaaGreat
open Go.RowKit Go.Maps Go.ChangeMaps Go.WideShapes

/-- the variable that a Ref tells, -1 of a constant -/
def KV.vr (K : KV) (r : Nat) : Int := match K.A.list[r]? with | some p => p.var | none => -1

theorem KV.vr_at {K : KV} {r : Nat} {p : PlaceV} (h : K.A.list[r]? = some p) : K.vr r = p.var := by simp [KV.vr, h]

theorem KV.Wf.const_var {K : KV} {P : List Nat} (h : K.Wf P) {r : Nat} {p : PlaceV} (h2 : r < 2) (hp : K.A.list[r]? = some p) : p.var = -1 := by
  match r, h2 with
  | 0, _ => rw [h.ok.c0] at hp; cases hp; rfl
  | 1, _ => rw [h.ok.c1] at hp; cases hp; rfl

/-- no node of u has a child of x -/
def KV.FreeN (K : KV) (u x : Int) (p : PlaceV) : Prop := ¬ (p.var = u ∧ (K.vr p.lo = x ∨ K.vr p.hi = x))
def KV.FreeUV (K : KV) (u x : Int) : Prop := ∀ (r : Nat) (p : PlaceV), 2 ≤ r → K.A.list[r]? = some p → p.taken = true → K.FreeN u x p

/-- where Free stands -/
structure FreeI (K : KV) (u x : Int) (Td : List Nat) (i : Nat) (V : List Nat) : Prop where
  il : i ≤ Td.length
  tk : ∀ r, r ∈ Td → K.A.tk r = true
  rt : ∀ r, r ∈ K.roots → r ∈ Td
  vt : ∀ r, r ∈ V ↔ r ∈ Td.take i
  nd : V.Nodup
  ln : Td.length ≤ K.roots.length + 2 * V.length
  kid : ∀ (r : Nat) (p : PlaceV), r ∈ V → 2 ≤ r → K.A.list[r]? = some p → p.lo ∈ Td ∧ p.hi ∈ Td
  ok : ∀ (r : Nat) (p : PlaceV), r ∈ V → 2 ≤ r → K.A.list[r]? = some p → K.FreeN u x p

theorem FreeI.start {K : KV} {u x : Int} (h : ∀ r, r ∈ K.roots → K.A.tk r = true) : FreeI K u x K.roots 0 [] :=
  ⟨by omega, h, fun r h => h, fun r => by simp, by simp, by simp, fun r p h => by simp at h, fun r p h => by simp at h⟩

theorem FreeI.skip {K : KV} {u x : Int} {Td V : List Nat} {i r : Nat} (h : FreeI K u x Td i V) (hr : Td[i]? = some r) (hin : r ∈ V) : FreeI K u x Td (i + 1) V := by
  have hi : i < Td.length := by
    by_cases h : i < Td.length
    · exact h
    · rw [List.getElem?_eq_none (by omega)] at hr; cases hr
  refine ⟨hi, h.tk, h.rt, fun s => ?_, h.nd, h.ln, h.kid, h.ok⟩
  rw [List.take_add_one, hr, h.vt]
  simp only [Option.toList_some, List.mem_append, List.mem_singleton]
  refine ⟨.inl, ?_⟩
  rintro (h1 | rfl)
  · exact h1
  · exact (h.vt s).1 hin

theorem FreeI.const {K : KV} {u x : Int} {Td V : List Nat} {i r : Nat} (h : FreeI K u x Td i V) (hr : Td[i]? = some r) (hin : r ∉ V) (h2 : r < 2) : FreeI K u x Td (i + 1) (V ++ [r]) := by
  have hi : i < Td.length := by
    by_cases h : i < Td.length
    · exact h
    · rw [List.getElem?_eq_none (by omega)] at hr; cases hr
  refine ⟨hi, h.tk, h.rt, fun s => ?_, ?_, by have := h.ln; simp; omega, fun s p hs hs2 => ?_, fun s p hs hs2 => ?_⟩
  · rw [List.take_add_one, hr, List.mem_append, h.vt]
    simp
  · rw [List.nodup_append]
    refine ⟨h.nd, by simp, fun a ha c hc => ?_⟩
    simp at hc; subst hc
    rintro rfl; exact hin ha
  · simp at hs; rcases hs with hs | rfl
    · exact h.kid s p hs hs2
    · omega
  · simp at hs; rcases hs with hs | rfl
    · exact h.ok s p hs hs2
    · omega

theorem FreeI.node {K : KV} {u x : Int} {Td V : List Nat} {i r : Nat} {p : PlaceV} (h : FreeI K u x Td i V) (hr : Td[i]? = some r) (hin : r ∉ V) (hp : K.A.list[r]? = some p) (t0 : K.A.tk p.lo = true) (t1 : K.A.tk p.hi = true) (hF : K.FreeN u x p) :
    FreeI K u x (Td ++ [p.lo, p.hi]) (i + 1) (V ++ [r]) := by
  have hi : i < Td.length := by
    by_cases h : i < Td.length
    · exact h
    · rw [List.getElem?_eq_none (by omega)] at hr; cases hr
  refine ⟨by simp; omega, fun s hs => ?_, fun s hs => by simp [h.rt s hs], fun s => ?_, ?_, by have := h.ln; simp; omega, fun s c hs hs2 hc => ?_, fun s c hs hs2 hc => ?_⟩
  · simp at hs; rcases hs with hs | rfl | rfl
    · exact h.tk s hs
    · exact t0
    · exact t1
  · rw [List.take_append_of_le_length (by omega), List.take_add_one, hr, List.mem_append, h.vt]
    simp
  · rw [List.nodup_append]
    refine ⟨h.nd, by simp, fun a ha c hc => ?_⟩
    simp at hc; subst hc
    rintro rfl; exact hin ha
  · simp at hs; rcases hs with hs | rfl
    · have := h.kid s c hs hs2 hc
      exact ⟨by simp [this.1], by simp [this.2]⟩
    · rw [hp] at hc; cases hc
      exact ⟨by simp, by simp⟩
  · simp at hs; rcases hs with hs | rfl
    · exact h.ok s c hs hs2 hc
    · rw [hp] at hc; cases hc
      exact hF

theorem FreeI.done {K : KV} {u x : Int} {Td V : List Nat} (hk : K.Ok) (h : FreeI K u x Td Td.length V) : K.FreeUV u x := by
  have hv : ∀ r, K.Reach r → r ∈ V := by
    intro r hr
    induction hr with
    | root hh => exact (h.vt _).2 (by rw [List.take_length]; exact h.rt _ (KV.mem_roots.2 hh))
    | lo _ h2 hp _ ih => exact (h.vt _).2 (by rw [List.take_length]; exact (h.kid _ _ ih h2 hp).1)
    | hi _ h2 hp _ ih => exact (h.vt _).2 (by rw [List.take_length]; exact (h.kid _ _ ih h2 hp).2)
  intro r p h2 hp hpt
  exact h.ok r p (hv r (KV.live_reach hk.wf hk.pos hk.ord _ r h2 (ArenaV.tk_iff.2 ⟨p, hp, hpt⟩) (Nat.le_refl _))) h2 hp

/-- what has been seen, whatever stands at it -/
structure SeenF (V : List Nat) (D : DM) : Prop where
  im : IsMap D
  has : ∀ r : Nat, r ≤ 4294967295 → (Maps.has D (.int .u32 r) = true ↔ r ∈ V)
  dom : ∀ k, Maps.has D k = true → ∃ r : Nat, k = .int .u32 r ∧ r < 1048576

theorem SeenF.nil : SeenF [] (.map []) := ⟨isMap_empty, fun r _ => by simp [Maps.has], fun k h => by simp [Maps.has] at h⟩

theorem SeenF.put {V : List Nat} {D : DM} {r : Nat} (h : SeenF V D) (hr : r < 1048576) (d : DM) : SeenF (V ++ [r]) (D.put (.int .u32 r) d) := by
  have hl : WideAt.IsKeyLit (.int .u32 (r : Int)) := trivial
  have inj : ∀ x : Nat, x ≠ r → (Lit.int .u32 (x : Int)) ≠ .int .u32 (r : Int) := fun x hx e => hx (by simp at e; omega)
  refine ⟨h.im.put _ _, fun x hx => ?_, fun k hk => ?_⟩
  · by_cases e : x = r
    · subst e; simp [has_put_same h.im hl]
    · rw [has_put_other (inj x e), h.has x hx]; simp [e]
  · by_cases e : k = .int .u32 (r : Int)
    · exact ⟨r, e, hr⟩
    · rw [has_put_other e] at hk; exact h.dom k hk

/-- Free's memory -/
structure FreeM (b base mb : Nat) (K : KV) (T : List DM) (q : KPtr) (w : World) (s : Value) (Td V : List Nat) (wr : World) : Prop where
  row : wr.ownsRow base 36 1 s Td.length (flatRefs Td)
  map : ∃ D : DM, SeenF V D ∧ wr.ownsMap Tryz.prog 36 (plainElem Tryz.prog 3) mb (Maps.size D) D
  up : Upd [] w wr
  ker : KerIn wr b K T q
  bm : mb < base
  bw : w.heap.size ≤ mb

theorem FreeM.keep {b base mb : Nat} {K : KV} {T : List DM} {q : KPtr} {w : World} {s : Value} {Td V : List Nat} {wr w2 : World} (h : FreeM b base mb K T q w s Td V wr) (u : Upd [] wr w2) : FreeM b base mb K T q w s Td V w2 := by
  obtain ⟨D, hS, hm⟩ := h.map
  exact ⟨row_keep h.row fun k hk => u.block k (h.row.lt k hk).2 (by simp), ⟨D, hS, own_keep hm (u.block _ hm.lt (by simp))⟩, h.up.trans u, h.ker.upd u (by simp), h.bm, h.bw⟩

end Go.Proofs.YtnenhecnkidnpaaGreat


/- interact.Groups. -/
namespace Go.Proofs.YtnenhecnkidnpaaGreat
open Go.RowKit Go.Maps Go.ChangeMaps Go.WideShapes

def U64 (x : Int) : Prop := 0 ≤ x ∧ x < 18446744073709551616

theorem wrap_u64 (n : Int) : U64 (IntKind.u64.wrap n) := by
  have e : IntKind.u64.wrap n = n % 18446744073709551616 := rfl
  rw [e]; unfold U64; omega
theorem bits_u64 (op : BinOp) (x y : Int) : U64 (bits op IntKind.u64 x y) := wrap_u64 _

/-- one variable of a sweep -/
def growStep (M : List Int) (st : Int × Bool) (w : Nat) : Int × Bool := if bitT st.1 w && decide (bits BinOp.andNot IntKind.u64 (M.getD w 0) st.1 ≠ 0) then (bits BinOp.or IntKind.u64 st.1 (M.getD w 0), true) else st
def sweepTo (M : List Int) (n : Nat) (g : Int) : Int × Bool := (List.range n).foldl (growStep M) (g, false)

/-- a group grown to its end -/
inductive Grow (M : List Int) (n : Nat) : Int → Int → Prop
  | done {g : Int} (h : (sweepTo M n g).2 = false) : Grow M n g g
  | more {g g' : Int} (h : (sweepTo M n g).2 = true) (k : Grow M n (sweepTo M n g).1 g') : Grow M n g g'

/-- the groups of the first variables -/
inductive GrR (M : List Int) (n : Nat) : Nat → Int → List Int → Prop
  | zero : GrR M n 0 0 []
  | skip {v : Nat} {d : Int} {gs : List Int} (h : GrR M n v d gs) (hb : bitT d v = true) : GrR M n (v + 1) d gs
  | take {v : Nat} {d g : Int} {gs : List Int} (h : GrR M n v d gs) (hb : bitT d v = false) (k : Grow M n (IntKind.u64.wrap (2 ^ v)) g) : GrR M n (v + 1) (bits BinOp.or IntKind.u64 d g) (gs ++ [g])

theorem GrR.len {M : List Int} {n v : Nat} {d : Int} {gs : List Int} (h : GrR M n v d gs) : gs.length ≤ v := by
  induction h with
  | zero => simp
  | skip _ _ ih => omega
  | take _ _ _ ih => simp; omega

end Go.Proofs.YtnenhecnkidnpaaGreat


/- Bits of words, and supports, as data. -/
namespace Go.Proofs.YtnenhecnkidnpaaGreat
open Go.RowKit Go.Maps Go.ChangeMaps Go.WideShapes

/-! ### bits of words -/
def nb (x : Int) (i : Nat) : Bool := x.toNat.testBit i

theorem toNat_bv {x : Int} (h : U64 x) : (BitVec.ofInt 64 x).toNat = x.toNat := by
  unfold U64 at h
  rw [BitVec.toNat_ofInt]
  have : x % (2 ^ 64 : Nat) = x := by omega
  rw [this]
theorem nb_bv {x : Int} (h : U64 x) (i : Nat) : nb x i = (BitVec.ofInt 64 x).getLsbD i := by
  unfold nb; rw [← toNat_bv h, BitVec.testBit_toNat]
theorem nb_of_bv (B : BitVec 64) (i : Nat) : nb ((B.toNat : Int) % 18446744073709551616) i = B.getLsbD i := by
  have h := B.isLt
  have : ((B.toNat : Int) % 18446744073709551616).toNat = B.toNat := by omega
  unfold nb; rw [this, BitVec.testBit_toNat]

theorem nb_or {x y : Int} (hx : U64 x) (hy : U64 y) (i : Nat) : nb (bits BinOp.or IntKind.u64 x y) i = (nb x i || nb y i) := by
  rw [nb_bv hx, nb_bv hy, ← BitVec.getLsbD_or]
  exact nb_of_bv (BitVec.ofInt 64 x ||| BitVec.ofInt 64 y) i
theorem nb_and {x y : Int} (hx : U64 x) (hy : U64 y) (i : Nat) : nb (bits BinOp.and IntKind.u64 x y) i = (nb x i && nb y i) := by
  rw [nb_bv hx, nb_bv hy, ← BitVec.getLsbD_and]
  exact nb_of_bv (BitVec.ofInt 64 x &&& BitVec.ofInt 64 y) i
theorem nb_andNot {x y : Int} (hx : U64 x) (hy : U64 y) {i : Nat} (hi : i < 64) : nb (bits BinOp.andNot IntKind.u64 x y) i = (nb x i && !nb y i) := by
  rw [nb_bv hx, nb_bv hy]
  have e : nb (bits BinOp.andNot IntKind.u64 x y) i = (BitVec.ofInt 64 x &&& ~~~BitVec.ofInt 64 y).getLsbD i := nb_of_bv _ i
  rw [e, BitVec.getLsbD_and, BitVec.getLsbD_not, decide_eq_true hi, Bool.true_and]
theorem nb_pow {n : Nat} (hn : n < 64) (i : Nat) : nb (IntKind.u64.wrap (2 ^ n)) i = decide (n = i) := by
  have e : IntKind.u64.wrap ((2 : Int) ^ n) = (2 : Int) ^ n % 18446744073709551616 := rfl
  have h1 : (2 : Nat) ^ n < 2 ^ 64 := Nat.pow_lt_pow_right (by omega) hn
  have h2 : ((2 : Int) ^ n) = ((2 ^ n : Nat) : Int) := by push_cast; rfl
  have h3 : ((2 : Int) ^ n % 18446744073709551616).toNat = 2 ^ n := by rw [h2]; generalize (2 : Nat) ^ n = m at h1 ⊢; omega
  rw [e]; unfold nb; rw [h3, Nat.testBit_two_pow]
theorem nb_zero (i : Nat) : nb 0 i = false := by simp [nb]
theorem nb_ext {x y : Int} (hx : U64 x) (hy : U64 y) (h : ∀ i, i < 64 → nb x i = nb y i) : x = y := by
  have : x.toNat = y.toNat := by
    apply Nat.eq_of_testBit_eq
    intro i
    by_cases hi : i < 64
    · exact h i hi
    · have l : ∀ z : Int, U64 z → z.toNat.testBit i = false := fun z hz => by
        apply Nat.testBit_lt_two_pow
        have h1 : (2 : Nat) ^ 64 ≤ 2 ^ i := Nat.pow_le_pow_right (by omega) (by omega)
        unfold U64 at hz; omega
      rw [l x hx, l y hy]
  unfold U64 at hx hy; omega

theorem bitT_nb {x : Int} (hx : U64 x) (v : Nat) : bitT x v = nb x v := by
  obtain ⟨n, rfl⟩ : ∃ n : Nat, x = (n : Int) := ⟨x.toNat, by unfold U64 at hx; omega⟩
  have hn : n < 18446744073709551616 := by unfold U64 at hx; omega
  have e : ((n : Int) / 2 ^ v) = ((n / 2 ^ v : Nat) : Int) := by push_cast; rfl
  have hu : U64 ((n : Int) / 2 ^ v) := by
    rw [e]; have := Nat.div_le_self n (2 ^ v); generalize n / 2 ^ v = m at this ⊢; unfold U64; omega
  have h1 : U64 1 := by unfold U64; omega
  have hbit : nb ((n : Int) / 2 ^ v) 0 = nb (n : Int) v := by
    rw [e]; unfold nb
    simp only [Int.toNat_natCast]
    rw [Nat.testBit_div_two_pow, Nat.zero_add]
  have h2 : ∀ i, nb (bits BinOp.and IntKind.u64 ((n : Int) / 2 ^ v) 1) i = (nb ((n : Int) / 2 ^ v) i && decide (i = 0)) := fun i => by
    rw [nb_and hu h1]
    congr 1
    have : nb 1 i = decide (0 = i) := nb_pow (n := 0) (by omega) i
    rw [this]; by_cases h : i = 0 <;> simp [h]; omega
  have hW := bits_u64 BinOp.and ((n : Int) / 2 ^ v) 1
  unfold bitT
  cases hb : nb (n : Int) v with
  | true =>
    have : bits BinOp.and IntKind.u64 ((n : Int) / 2 ^ v) 1 = 1 := nb_ext hW h1 fun i _ => by
      have e1 : nb 1 i = decide (0 = i) := nb_pow (n := 0) (by omega) i
      rw [h2, e1]
      by_cases h : i = 0
      · subst h; rw [hbit, hb]; rfl
      · simp [h]; omega
    rw [this]; rfl
  | false =>
    have : bits BinOp.and IntKind.u64 ((n : Int) / 2 ^ v) 1 = 0 := nb_ext hW (by unfold U64; omega) fun i _ => by
      rw [h2, nb_zero]
      by_cases h : i = 0
      · subst h; rw [hbit, hb]; rfl
      · simp [h]
    rw [this]; rfl

/-! ### supports -/
theorem WalkL.one {K : KV} {r : Nat} {N : List Nat} (h : WalkL K [] [r] N) : WalkN K [] r N := by
  cases h with
  | cons h t => cases t; simpa using h

theorem KV.Under.node {K : KV} {P : List Nat} (hw : K.Wf P) {r x : Nat} (ht : K.A.tk r = true) (h : K.Under r x) : 2 ≤ x ∧ K.A.tk x = true := by
  induction h with
  | refl h => exact ⟨h, ht⟩
  | lo _ hp h2 ih =>
    obtain ⟨p', hp', hpt'⟩ := ArenaV.tk_iff.1 ih.2
    rw [hp] at hp'; cases hp'
    exact ⟨h2, (hw.cl _ _ ih.1 hp hpt').1⟩
  | hi _ hp h2 ih =>
    obtain ⟨p', hp', hpt'⟩ := ArenaV.tk_iff.1 ih.2
    rw [hp] at hp'; cases hp'
    exact ⟨h2, (hw.cl _ _ ih.1 hp hpt').2⟩

theorem WalkN.mem {K : KV} {r x : Nat} {N : List Nat} (h : WalkN K [] r N) : x ∈ N ↔ K.Under r x := by
  refine ⟨h.under x, fun hu => ?_⟩
  induction hu with
  | refl h2 => simpa using h.has h2
  | lo _ hp h2 ih =>
    rcases (h.kids _ _ ih hp).1 with h3 | h3
    · omega
    · simpa using h3
  | hi _ hp h2 ih =>
    rcases (h.kids _ _ ih hp).2 with h3 | h3
    · omega
    · simpa using h3

/-- the child of a node, out of the node's function -/
theorem KV.Ok.kid_den {K : KV} (hk : K.Ok) {x : Nat} {p : PlaceV} (h2 : 2 ≤ x) (hp : K.A.list[x]? = some p) (hpt : p.taken = true) (b : Bool) (y : Nat → Bool) : K.den (if b then p.hi else p.lo) y = K.den x (upd y p.var.toNat b) := by
  cases b with
  | true => exact (KV.den_hi hk.wf hk.ord h2 hp hpt y).symm
  | false => exact (KV.den_lo hk.wf hk.ord h2 hp hpt y).symm

theorem KV.Ok.mix_kid {K : KV} (hk : K.Ok) {r x : Nat} {p : PlaceV} (h2 : 2 ≤ x) (hp : K.A.list[x]? = some p) (hpt : p.taken = true) (b : Bool) {a : Nat → Bool} (ha : ∀ y, K.den x y = K.den r (K.mix (K.dep x) a y)) :
    ∃ a', ∀ y, K.den (if b then p.hi else p.lo) y = K.den r (K.mix (K.dep (if b then p.hi else p.lo)) a' y) := by
  have hvr := hk.wf.vr x p h2 hp hpt
  have hb := hk.ord.below hk.wf h2 hp hpt
  have hcl := hk.wf.cl x p h2 hp hpt
  have hdx : K.dep x = K.lev p.var.toNat := by simp [KV.dep, hp, hvr.1]
  have hvl : p.var.toNat < K.vars := by omega
  generalize hc : (if b then p.hi else p.lo) = c
  have htc : K.A.tk c = true := by
    subst hc; cases b
    · exact hcl.1
    · exact hcl.2
  have hdc : K.dep x < K.dep c := by
    subst hc; cases b
    · exact hb.1
    · exact hb.2
  refine ⟨upd a p.var.toNat b, fun y => ?_⟩
  have e1 : K.den c y = K.den c (K.mix (K.dep c) (upd a p.var.toNat b) y) := KV.den_same hk.wf hk.ord _ c _ _ htc (Nat.le_refl _) fun u hu hd => by
    simp only [KV.mix]; rw [if_neg (by omega)]
  rw [e1, ← hc, hk.kid_den h2 hp hpt, ha, hc]
  congr 1
  funext u
  simp only [KV.mix, upd]
  by_cases hu : u < K.vars
  · by_cases h3 : u = p.var.toNat
    · subst h3
      simp only [hu, true_and, if_true]
      rw [if_neg (by omega), if_pos (by omega)]
    · simp only [hu, true_and, h3, if_false]
      by_cases h4 : K.lev u < K.dep x
      · rw [if_pos h4, if_pos (by omega)]
      · rw [if_neg h4]
  · have h3 : u ≠ p.var.toNat := by omega
    simp [hu, h3]

theorem KV.Ok.mix_under {K : KV} (hk : K.Ok) {r x : Nat} (ht : K.A.tk r = true) (h : K.Under r x) : ∃ a, ∀ y, K.den x y = K.den r (K.mix (K.dep x) a y) := by
  induction h with
  | refl h => exact ⟨fun _ => false, fun y => KV.den_same hk.wf hk.ord _ r _ _ ht (Nat.le_refl _) fun u hu hd => by
      simp only [KV.mix]; rw [if_neg (by omega)]⟩
  | lo h hp h2 ih =>
    obtain ⟨a, ha⟩ := ih
    have hn := h.node hk.wf ht
    obtain ⟨p', hp', hpt'⟩ := ArenaV.tk_iff.1 hn.2
    rw [hp] at hp'; cases hp'
    exact hk.mix_kid hn.1 hp hpt' false ha
  | hi h hp h2 ih =>
    obtain ⟨a, ha⟩ := ih
    have hn := h.node hk.wf ht
    obtain ⟨p', hp', hpt'⟩ := ArenaV.tk_iff.1 hn.2
    rw [hp] at hp'; cases hp'
    exact hk.mix_kid hn.1 hp hpt' true ha

/-- a function depends on a variable -/
def Hangs (t : (Nat → Bool) → Bool) (v : Nat) : Prop := ∃ y, t (upd y v true) ≠ t (upd y v false)

theorem KV.Ok.hangs_of {K : KV} (hk : K.Ok) (hu : K.Uni) {r x : Nat} {p : PlaceV} (ht : K.A.tk r = true) (h : K.Under r x) (hp : K.A.list[x]? = some p) : Hangs (K.den r) p.var.toNat := by
  have hn := h.node hk.wf ht
  obtain ⟨p', hp', hpt⟩ := ArenaV.tk_iff.1 hn.2
  rw [hp] at hp'; cases hp'
  have hvr := hk.wf.vr x p hn.1 hp hpt
  have hcl := hk.wf.cl x p hn.1 hp hpt
  have hdx : K.dep x = K.lev p.var.toNat := by simp [KV.dep, hp, hvr.1]
  obtain ⟨a, ha⟩ := hk.mix_under ht h
  have hne : ∃ y, K.den p.hi y ≠ K.den p.lo y := by
    by_cases hh : ∃ y, K.den p.hi y ≠ K.den p.lo y
    · exact hh
    · exfalso
      refine hk.ord.ne x p hn.1 hp hpt (KV.canon hk.wf hk.ord hu _ _ _ hcl.1 hcl.2 (Nat.le_refl _) fun y => ?_)
      by_cases h : K.den p.lo y = K.den p.hi y
      · exact h
      · exact absurd ⟨y, fun e => h e.symm⟩ hh
  obtain ⟨y, hy⟩ := hne
  refine ⟨K.mix (K.dep x) a y, ?_⟩
  have e : ∀ b, upd (K.mix (K.dep x) a y) p.var.toNat b = K.mix (K.dep x) a (upd y p.var.toNat b) := fun b => by
    funext u
    simp only [KV.mix, upd]
    by_cases h3 : u = p.var.toNat
    · subst h3; rw [if_pos rfl, if_neg (by omega), if_pos rfl]
    · simp [h3]
  rw [e, e, ← ha, ← ha]
  have e1 := hk.kid_den hn.1 hp hpt true y
  have e2 := hk.kid_den hn.1 hp hpt false y
  simp only [if_true] at e1
  simp only [Bool.false_eq_true, if_false] at e2
  rw [← e1, ← e2]; exact hy

theorem KV.Ok.hangs_not {K : KV} (hk : K.Ok) {v : Nat} : ∀ (n r : Nat), K.vars - K.dep r ≤ n → K.A.tk r = true → (∀ x p, K.Under r x → K.A.list[x]? = some p → p.var.toNat ≠ v) → ∀ y b, K.den r (upd y v b) = K.den r y
  | n, r, hn, ht, hx, y, b => by
    by_cases h2 : 2 ≤ r
    · obtain ⟨p, u, hp, hpt, hpv, hu, h3, h4, hd⟩ := hk.wf.node_at h2 ht
      have hb := hk.ord.below hk.wf h2 hp hpt
      have hlt := hk.wf.dep_lt hk.ord h2 ht
      have hv := hx r p (.refl h2) hp
      match n with
      | 0 => omega
      | n + 1 =>
        have ih : ∀ c, K.A.tk c = true → K.dep r < K.dep c → (2 ≤ c → K.Under r c) → K.den c (upd y v b) = K.den c y := fun c hc hd hu => by
          by_cases hc2 : 2 ≤ c
          · exact KV.Ok.hangs_not hk n c (by omega) hc (fun x q hx' hq => hx x q ((hu hc2).trans hx') hq) y b
          · rw [K.den_const (by omega), K.den_const (by omega)]
        rw [KV.den_node hk.wf hk.ord h2 hp hpt, KV.den_node hk.wf hk.ord h2 hp hpt, upd_ne _ _ hv, ih p.hi h4 hb.2 (fun h => .hi (.refl h2) hp h), ih p.lo h3 hb.1 (fun h => .lo (.refl h2) hp h)]
    · rw [K.den_const (by omega), K.den_const (by omega)]

theorem KV.Wf.vof_lt {K : KV} {P : List Nat} (h : K.Wf P) {x : Nat} (h2 : 2 ≤ x) (ht : K.A.tk x = true) : K.vof x < K.vars := by
  obtain ⟨p, v, hp, _, hv, hl, _⟩ := h.node_at h2 ht
  simp [KV.vof, hp]; omega

theorem sup_fold' (K : KV) (N : List Nat) (hv : ∀ x, x ∈ N → K.vof x < 64) (s : Int) (hs : U64 s) : U64 (N.foldl (fun s x => supStep s (K.vof x)) s) ∧ ∀ i, nb (N.foldl (fun s x => supStep s (K.vof x)) s) i = (nb s i || decide (∃ x, x ∈ N ∧ K.vof x = i)) := by
  induction N generalizing s with
  | nil => exact ⟨hs, fun i => by simp⟩
  | cons a N ih =>
    obtain ⟨h1, h2⟩ := ih (fun x hx => hv x (by simp [hx])) (supStep s (K.vof a)) (bits_u64 _ _ _)
    refine ⟨h1, fun i => ?_⟩
    rw [List.foldl_cons, h2]
    unfold supStep
    rw [nb_or hs (wrap_u64 _), nb_pow (hv a (by simp)), Bool.or_assoc]
    congr 1
    rw [Bool.eq_iff_iff]
    simp

/-- the support is the set of the variables on which a function depends -/
theorem SupIs.bits {K : KV} {r : Nat} {s : Int} (hk : K.Ok) (hu : K.Uni) (ht : K.A.tk r = true) (h : SupIs K r s) : U64 s ∧ ∀ v, nb s v = true ↔ Hangs (K.den r) v := by
  obtain ⟨N, hN, rfl⟩ := h
  have hN := hN.one
  have hv : ∀ x, x ∈ N → K.vof x < 64 := fun x hx => by
    have := hN.two x hx
    have := hk.wf.vof_lt this.1 this.2
    have := hk.wf.vs
    omega
  obtain ⟨h1, h2⟩ := sup_fold' K N hv 0 (by unfold U64; omega)
  refine ⟨h1, fun v => ?_⟩
  rw [h2, nb_zero, Bool.false_or, decide_eq_true_eq]
  constructor
  · rintro ⟨x, hx, rfl⟩
    have ht' := hN.two x hx
    obtain ⟨p, hp, hpt⟩ := ArenaV.tk_iff.1 ht'.2
    have := hk.hangs_of hu ht (hN.under x hx) hp
    simpa [KV.vof, hp] using this
  · intro hh
    by_cases he : ∃ x, x ∈ N ∧ K.vof x = v
    · exact he
    · exfalso
      obtain ⟨y, hy⟩ := hh
      have key := hk.hangs_not (v := v) _ r (Nat.le_refl _) ht (fun x p hx hp hv => he ⟨x, hN.mem.2 hx, by simp [KV.vof, hp, hv]⟩)
      exact hy (by rw [key, key])
end Go.Proofs.YtnenhecnkidnpaaGreat


/- Truth tables, as data; no program is named. -/
namespace Go.Proofs.YtnenhecnkidnpaaGreat

/-- a table: how many variables, and its words -/
structure TV where
  n : Nat
  ws : List Int
deriving DecidableEq

def wordsN (n : Nat) : Nat := if n ≤ 6 then 1 else 2 ^ (n - 6)

structure TV.Ok (t : TV) : Prop where
  n16 : t.n ≤ 16
  len : t.ws.length = wordsN t.n
  u : ∀ x, x ∈ t.ws → U64 x
  low : t.n < 6 → ∀ x, x ∈ t.ws → ∀ i, 2 ^ t.n ≤ i → nb x i = false

/-- the value at a place -/
def TV.bit (t : TV) (x : Nat) : Bool := nb (t.ws.getD (x / 64) 0) (x % 64)

theorem nb_high {x : Int} (h : U64 x) {i : Nat} (hi : 64 ≤ i) : nb x i = false := by
  apply Nat.testBit_lt_two_pow
  have h1 : (2 : Nat) ^ 64 ≤ 2 ^ i := Nat.pow_le_pow_right (by omega) hi
  unfold U64 at h; omega

theorem wordsN_pos (n : Nat) : 0 < wordsN n := by unfold wordsN; split; · omega
                                                  · exact Nat.two_pow_pos _
theorem wordsN_mul {n : Nat} (h : 6 ≤ n) : wordsN n * 64 = 2 ^ n := by
  unfold wordsN
  split
  · obtain rfl : n = 6 := by omega
    rfl
  · have : n = (n - 6) + 6 := by omega
    rw [this, Nat.pow_add]; simp

theorem TV.Ok.word {t : TV} (h : t.Ok) {i : Nat} (hi : i < wordsN t.n) : U64 (t.ws.getD i 0) ∧ t.ws.getD i 0 ∈ t.ws ∧ t.ws[i]? = some (t.ws.getD i 0) := by
  have hl : i < t.ws.length := by rw [h.len]; exact hi
  have e : t.ws[i]? = some (t.ws.getD i 0) := by rw [List.getD_eq_getElem?_getD, List.getElem?_eq_getElem hl]; rfl
  have hm := List.mem_of_getElem? e
  exact ⟨h.u _ hm, hm, e⟩

theorem div64_lt {n x : Nat} (hx : x < 2 ^ n) : x / 64 < wordsN n := by
  by_cases h : 6 ≤ n
  · have := wordsN_mul h; omega
  · have : (2 : Nat) ^ n ≤ 2 ^ 6 := Nat.pow_le_pow_right (by omega) (by omega)
    unfold wordsN; rw [if_pos (by omega)]; omega

theorem TV.ext {t u : TV} (ht : t.Ok) (hu : u.Ok) (hn : t.n = u.n) (h : ∀ x, x < 2 ^ t.n → t.bit x = u.bit x) : t = u := by
  obtain ⟨n, ws⟩ := t
  obtain ⟨m, vs⟩ := u
  simp only at hn; subst hn
  congr 1
  apply List.ext_getElem?
  intro i
  by_cases hi : i < wordsN n
  · obtain ⟨a1, a2, a3⟩ := ht.word (i := i) hi
    obtain ⟨b1, b2, b3⟩ := hu.word (i := i) hi
    show ws[i]? = vs[i]?
    have a3' : ws[i]? = some (ws.getD i 0) := a3
    have b3' : vs[i]? = some (vs.getD i 0) := b3
    rw [a3', b3']
    congr 1
    refine nb_ext a1 b1 fun j hj => ?_
    by_cases h6 : 6 ≤ n
    · have hw := wordsN_mul h6
      have := h (64 * i + j) (by show 64 * i + j < 2 ^ n; omega)
      unfold TV.bit at this
      rw [show (64 * i + j) / 64 = i by omega, show (64 * i + j) % 64 = j by omega] at this
      exact this
    · have hi0 : i = 0 := by unfold wordsN at hi; rw [if_pos (by omega)] at hi; omega
      subst hi0
      by_cases hj2 : j < 2 ^ n
      · have := h j hj2
        unfold TV.bit at this
        rw [show j / 64 = 0 by omega, show j % 64 = j by omega] at this
        exact this
      · rw [ht.low (by simpa using h6) _ a2 j (by simpa using hj2), hu.low (by simpa using h6) _ b2 j (by simpa using hj2)]
  · have e1 := ht.len
    have e2 := hu.len
    simp only at e1 e2
    rw [List.getElem?_eq_none (by omega), List.getElem?_eq_none (by omega)]

/-- the place of some values -/
def idx : Nat → (Nat → Bool) → Nat
  | 0, _ => 0
  | n + 1, y => idx n y + if y n then 2 ^ n else 0

theorem idx_lt : ∀ (n : Nat) (y : Nat → Bool), idx n y < 2 ^ n
  | 0, _ => by simp [idx]
  | n + 1, y => by
    have := idx_lt n y
    have e : (2 : Nat) ^ (n + 1) = 2 ^ n + 2 ^ n := by rw [Nat.pow_succ]; omega
    unfold idx; split <;> omega

theorem idx_bit : ∀ (n : Nat) (y : Nat → Bool) (v : Nat), (idx n y).testBit v = (decide (v < n) && y v)
  | 0, y, v => by simp [idx]
  | n + 1, y, v => by
    have hl := idx_lt n y
    have ih := idx_bit n y v
    unfold idx
    by_cases hy : y n = true
    · rw [if_pos hy, Nat.add_comm]
      by_cases hv : v = n
      · subst hv
        rw [Nat.testBit_two_pow_add_eq, Nat.testBit_lt_two_pow hl]
        simp [hy]
      · by_cases hvn : v < n
        · rw [Nat.testBit_two_pow_add_gt hvn, ih]
          simp [hvn, show v < n + 1 by omega]
        · have h2 : 2 ^ n + idx n y < 2 ^ v := by
            have e : (2 : Nat) ^ (n + 1) = 2 ^ n + 2 ^ n := by rw [Nat.pow_succ]; omega
            have : (2 : Nat) ^ (n + 1) ≤ 2 ^ v := Nat.pow_le_pow_right (by omega) (by omega)
            omega
          rw [Nat.testBit_lt_two_pow h2]
          simp [show ¬ v < n + 1 by omega]
    · rw [if_neg hy, Nat.add_zero, ih]
      by_cases hv : v = n
      · subst hv; simp [hy]
      · have : (v < n) ↔ (v < n + 1) := by omega
        simp [this]

theorem idx_of {n x : Nat} (hx : x < 2 ^ n) : idx n (fun v => x.testBit v) = x := by
  apply Nat.eq_of_testBit_eq
  intro v
  rw [idx_bit]
  by_cases hv : v < n
  · simp [hv]
  · have : x < 2 ^ v := Nat.lt_of_lt_of_le hx (Nat.pow_le_pow_right (by omega) (by omega))
    rw [Nat.testBit_lt_two_pow this]; simp [hv]

/-- a place, one variable set -/
def setb (x v : Nat) (b : Bool) : Nat := if x.testBit v = b then x else if b then x + 2 ^ v else x - 2 ^ v

theorem tb_add {x v : Nat} (h : x.testBit v = false) (u : Nat) : (x + 2 ^ v).testBit u = if u = v then true else x.testBit u := by
  by_cases hu : u = v
  · subst hu; rw [if_pos rfl, Nat.add_comm, Nat.testBit_two_pow_add_eq, h]; rfl
  · rw [if_neg hu]
    have e : x + 2 ^ v = x ||| 2 ^ v := by
      have hd := Nat.div_add_mod x (2 ^ (v + 1))
      have hm : x % 2 ^ (v + 1) < 2 ^ v := by
        have h1 : x % 2 ^ (v + 1) < 2 ^ (v + 1) := Nat.mod_lt _ (Nat.two_pow_pos _)
        have h2 : (x % 2 ^ (v + 1)).testBit v = false := by rw [Nat.testBit_mod_two_pow, h]; simp
        by_cases hge : 2 ^ v ≤ x % 2 ^ (v + 1)
        · exfalso
          have e2 : (2 : Nat) ^ (v + 1) = 2 ^ v + 2 ^ v := by rw [Nat.pow_succ]; omega
          have e3 : x % 2 ^ (v + 1) = 2 ^ v + (x % 2 ^ (v + 1) - 2 ^ v) := by omega
          rw [e3, Nat.testBit_two_pow_add_eq, Nat.testBit_lt_two_pow (by omega)] at h2
          cases h2
        · omega
      apply Nat.eq_of_testBit_eq
      intro i
      have e4 : x + 2 ^ v = 2 ^ (v + 1) * (x / 2 ^ (v + 1)) + (2 ^ v + x % 2 ^ (v + 1)) := by omega
      have e5 : 2 ^ v + x % 2 ^ (v + 1) < 2 ^ (v + 1) := by
        have e2 : (2 : Nat) ^ (v + 1) = 2 ^ v + 2 ^ v := by rw [Nat.pow_succ]; omega
        omega
      rw [e4, Nat.testBit_two_pow_mul_add _ e5, Nat.testBit_or, Nat.testBit_two_pow]
      have h6 := Nat.testBit_mod_two_pow x (v + 1) i
      have h7 : x.testBit i = if i < v + 1 then (x % 2 ^ (v + 1)).testBit i else (x / 2 ^ (v + 1)).testBit (i - (v + 1)) := by
        split
        · rename_i hi; rw [h6]; simp [hi]
        · rename_i hi; rw [Nat.testBit_div_two_pow]; congr 1; omega
      rw [h7]
      by_cases hi : i < v + 1
      · rw [if_pos hi, if_pos hi]
        by_cases hiv : i = v
        · subst hiv; rw [Nat.testBit_two_pow_add_eq, Nat.testBit_lt_two_pow hm]; simp
        · rw [Nat.testBit_two_pow_add_gt (by omega)]; simp [Ne.symm hiv]
      · rw [if_neg hi, if_neg hi]
        have : ¬ v = i := by omega
        simp [this]
    rw [e, Nat.testBit_or, Nat.testBit_two_pow]
    simp [Ne.symm hu]

theorem setb_bit (x v : Nat) (b : Bool) (u : Nat) : (setb x v b).testBit u = if u = v then b else x.testBit u := by
  unfold setb
  by_cases h : x.testBit v = b
  · rw [if_pos h]
    by_cases hu : u = v
    · subst hu; rw [if_pos rfl]; exact h
    · rw [if_neg hu]
  · rw [if_neg h]
    cases b with
    | true =>
      have h' : x.testBit v = false := by simpa using h
      rw [if_pos rfl, tb_add h']
    | false =>
      have h' : x.testBit v = true := by simpa using h
      have hge : 2 ^ v ≤ x := Nat.ge_two_pow_of_testBit h'
      have h0 : (x - 2 ^ v).testBit v = false := by
        cases e : (x - 2 ^ v).testBit v with
        | false => rfl
        | true =>
          have := Nat.testBit_two_pow_add_eq (x - 2 ^ v) v
          rw [Nat.add_comm, Nat.sub_add_cancel hge, h', e] at this; cases this
      have := tb_add h0 u
      rw [Nat.sub_add_cancel hge] at this
      simp only [Bool.false_eq_true, if_false]
      by_cases hu : u = v
      · subst hu; rw [if_pos rfl]; exact h0
      · rw [if_neg hu] at this ⊢; exact this.symm

theorem setb_lt {x v n : Nat} (b : Bool) (hx : x < 2 ^ n) (hv : v < n) : setb x v b < 2 ^ n := by
  apply Nat.lt_pow_two_of_testBit
  intro i hi
  rw [setb_bit, if_neg (by omega)]
  exact Nat.testBit_lt_two_pow (Nat.lt_of_lt_of_le hx (Nat.pow_le_pow_right (by omega) hi))

theorem setb_idx {n v : Nat} (hv : v < n) (y : Nat → Bool) (b : Bool) : setb (idx n y) v b = idx n (upd y v b) := by
  apply Nat.eq_of_testBit_eq
  intro u
  rw [setb_bit, idx_bit, idx_bit]
  by_cases hu : u = v
  · subst hu; simp [hv, upd]
  · simp [hu, upd]

/-- the function of a table -/
def TV.fn (t : TV) (y : Nat → Bool) : Bool := t.bit (idx t.n y)

theorem TV.fn_ext {t u : TV} (ht : t.Ok) (hu : u.Ok) (hn : t.n = u.n) (h : ∀ y, t.fn y = u.fn y) : t = u :=
  TV.ext ht hu hn fun x hx => by
    have := h fun v => x.testBit v
    unfold TV.fn at this
    rw [idx_of hx, ← hn, idx_of hx] at this
    exact this

/-- the function does not see variables that there are not -/
theorem TV.fn_same (t : TV) {x y : Nat → Bool} (h : ∀ v, v < t.n → x v = y v) : t.fn x = t.fn y := by
  have : idx t.n x = idx t.n y := by
    apply Nat.eq_of_testBit_eq
    intro v
    rw [idx_bit, idx_bit]
    by_cases hv : v < t.n
    · simp [hv, h v hv]
    · simp [hv]
  unfold TV.fn; rw [this]
end Go.Proofs.YtnenhecnkidnpaaGreat

