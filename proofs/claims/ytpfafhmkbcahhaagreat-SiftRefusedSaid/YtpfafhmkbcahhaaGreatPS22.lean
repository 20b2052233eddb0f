import Derived.Test.YtpfafhmkbcahhaaGreatPS21
import Derived.Test.YtpfafhmkbcahhaaGreatPS16
namespace Go.Proofs.YtpfafhmkbcahhaaGreat
open Go.RowKit Go.Maps Go.ChangeMaps Go.WideShapes
theorem Upd.cell0 {w w':World} (u:Upd [] w w') {a:Addr} {v:Value} (h:w.cell? a=some v):w'.cell? a=some v:=(u.cell (World.block_lt_of_cell? _ _ h) (by simp)).trans h
structure MV where
  n:Nat
  c:Nat
  order:List Nat
  held:List (TV × Nat)
  trail:List Nat
def MV.tabs (M:MV):List TV:=M.held.map (·.1)
def MV.hold (M:MV) (t:TV):Nat:=((M.held.find? fun h=>decide (h.1=t)).map (·.2)).getD 0
def flatH (H:List (TV × Nat)) (cs:List Value):List Value:=(H.zip cs).flatMap fun p=>[Value.int .i64 p.1.1.n,p.2,.int .i64 p.1.2]
theorem flatH_get {H:List (TV × Nat)} {cs:List Value} (hl:cs.length=H.length) {i:Nat} {h:TV × Nat} {c:Value} (ht:H[i]?=some h) (hc:cs[i]?=some c):(flatH H cs)[i * 3]?=some (.int .i64 h.1.n)∧(flatH H cs)[i * 3 + 1]?=some c∧(flatH H cs)[i * 3 + 2]?=some (.int .i64 h.2):=by
  induction H generalizing cs i with
  | nil=>simp at ht
  | cons a L ih =>
    cases cs with
    | nil=>simp at hl
    | cons d cs =>
      have hl':cs.length=L.length:=by simpa using hl
      have e:flatH (a :: L) (d :: cs)=Value.int .i64 a.1.n :: d :: .int .i64 a.2 :: flatH L cs:=rfl
      cases i with
      | zero=>simp at ht hc; subst ht hc; rw [e]; exact ⟨rfl,rfl,rfl⟩
      | succ i =>
        simp at ht hc
        obtain ⟨h1,h2,h3⟩:=ih hl' ht hc;rw [e]
        have e1:(i + 1) * 3=i * 3 + 1 + 1 + 1:=by omega
        have e2:(i + 1) * 3 + 1=i * 3 + 1 + 1 + 1 + 1:=by omega
        have e3:(i + 1) * 3 + 2=i * 3 + 2 + 1 + 1 + 1:=by omega
        refine ⟨?_,?_,?_⟩
        · rw [e1]; simpa using h1
        · rw [e2]; simpa using h2
        · rw [e3]; simpa using h3
theorem flatH_snoc {H:List (TV × Nat)} {cs:List Value} (hl:cs.length=H.length) (h:TV × Nat) (c:Value):flatH (H ++ [h]) (cs ++ [c])=flatH H cs ++ [Value.int .i64 h.1.n,c,.int .i64 h.2]:=by
  unfold flatH
  rw [List.zip_append hl.symm,List.flatMap_append]; rfl
structure MPtr where
  ov:Value
  hv:Value
  tv:Value
def MPtr.all (p:MPtr) (m:Nat):List Nat:=m :: (p.ov.ownBlock.toList ++ (p.hv.ownBlock.toList ++ p.tv.ownBlock.toList))
theorem MPtr.mem {p:MPtr} {m k:Nat}:k∈p.all m↔k=m∨p.ov.ownBlock=some k∨p.hv.ownBlock=some k∨p.tv.ownBlock=some k:=by
  simp [MPtr.all]
structure HLs (w:World) (Z:List Nat) (v:Value) (H:List (TV × Nat)):Prop where
  ex:∃ cs:List Value,cs.length=H.length∧w.ownsRow 0 232 3 v H.length (flatH H cs)∧∀ (i:Nat) (h:TV × Nat) (c:Value),H[i]?=some h→cs[i]?=some c→TIn w Z c h.1
structure ModIn (w:World) (m:Nat) (M:MV) (p:MPtr) (Z:List Nat):Prop where
  blk:w.heap[m]?=some (.cells #[.int .i64 M.n,.int .i64 M.c,p.ov,p.hv,p.tv] 90 (0,0))
  os:w.ownsRow 0 3 1 p.ov M.order.length (flatN M.order)
  hs:HLs w Z p.hv M.held
  ts:w.ownsRow 0 3 1 p.tv M.trail.length (flatN M.trail)
  ne:∀ k,p.ov.ownBlock=some k→p.tv.ownBlock≠some k
  sz:∀ k,k∈p.all m→k∈Z
theorem HLs.row {w:World} {Z:List Nat} {v:Value} {H:List (TV × Nat)} (h:HLs w Z v H):∃ xs,w.ownsRow 0 232 3 v H.length xs:=by
  obtain ⟨cs,_,hr,_⟩:=h.ex; exact ⟨_,hr⟩
theorem HLs.keep {w w':World} {Z S:List Nat} {v:Value} {H:List (TV × Nat)} (h:HLs w Z v H) (u:Upd S w w') (hS:∀ k,k∈S→k∈Z∨w.heap.size≤k) (hv:∀ k,v.ownBlock=some k→k∉S):HLs w' Z v H:=by
  obtain ⟨cs,h1,h2,h3⟩:=h.ex;exact ⟨cs,h1,row_keep h2 fun k hk=>u.block k (h2.lt k hk).2 (hv k hk),fun i t c ht hc=>(h3 i t c ht hc).keep u hS⟩
theorem HLs.apart {w:World} {Z Z':List Nat} {v:Value} {H:List (TV × Nat)} (h:HLs w Z v H) (hs:Sub Z w Z'):HLs w Z' v H:=by
  obtain ⟨cs,h1,h2,h3⟩:=h.ex;exact ⟨cs,h1,h2,fun i t c ht hc=>(h3 i t c ht hc).apart hs⟩
theorem HLs.form {w:World} {Z:List Nat} {v:Value} {H:List (TV × Nat)} (h:HLs w Z v H):∃ (a:Option Addr) (c:Nat),v=.slice a H.length c∧(0 < H.length→∃ g,a=some ⟨g,0,none⟩):=by
  obtain ⟨xs,hr⟩:=h.row;obtain ⟨a,c,hv,hh⟩:=row_nil_len hr;refine ⟨a,c,hv,fun hp=>?_⟩
  rcases hh with ⟨_,h0,_⟩ | hh
  · omega
  · exact hh
theorem HLs.at_ {w:World} {n' cp g:Nat} {Z:List Nat} {H:List (TV × Nat)} (h:HLs w Z (.slice (some ⟨g,0,none⟩) n' cp) H) {i:Nat} {t:TV × Nat} (ht:H[i]?=some t) :
    ∃ c,w.cell? ⟨g,i * 3,none⟩=some (.int .i64 t.1.n)∧w.cell? ⟨g,i * 3 + 1,none⟩=some c∧w.cell? ⟨g,i * 3 + 2,none⟩=some (.int .i64 t.2)∧TIn w Z c t.1:=by
  obtain ⟨cs,h1,h2,h3⟩:=h.ex
  have hil:i < H.length:=by
    by_cases e:i < H.length
    · exact e
    · rw [List.getElem?_eq_none (by omega)] at ht; cases ht
  have hc:cs[i]?=some (cs[i]'(by omega)):=List.getElem?_eq_getElem (by omega);obtain ⟨e1,e2,e3⟩:=flatH_get h1 ht hc;exact ⟨_,row_cell h2 e1,row_cell h2 e2,row_cell h2 e3,h3 i t _ ht hc⟩
theorem ModIn.keep {w w':World} {m:Nat} {M:MV} {p:MPtr} {Z S:List Nat} (h:ModIn w m M p Z) (u:Upd S w w') (hS:∀ k,k∈S→k∈Z∨w.heap.size≤k) (hd:∀ k,k∈p.all m→k∉S):ModIn w' m M p Z:=by
  refine ⟨by rw [u.block m (heap_lt h.blk) (hd m (MPtr.mem.2 (.inl rfl)))]; exact h.blk,row_keep h.os fun k hk=>u.block k (h.os.lt k hk).2 (hd k (MPtr.mem.2 (.inr (.inl hk)))),?_,row_keep h.ts fun k hk=>u.block k (h.ts.lt k hk).2 (hd k (MPtr.mem.2 (.inr (.inr (.inr hk))))),h.ne,h.sz⟩
  exact h.hs.keep u hS fun k hk=>hd k (MPtr.mem.2 (.inr (.inr (.inl hk))))
theorem ModIn.keep0 {w w':World} {m:Nat} {M:MV} {p:MPtr} {Z:List Nat} (h:ModIn w m M p Z) (u:Upd [] w w'):ModIn w' m M p Z:=h.keep u (by simp) (by simp)
theorem ModIn.apart {w:World} {m:Nat} {M:MV} {p:MPtr} {Z Z':List Nat} (h:ModIn w m M p Z) (hs:Sub Z w Z') (hz:∀ k,k∈p.all m→k∈Z'):ModIn w m M p Z' :=
  ⟨h.blk,h.os,h.hs.apart hs,h.ts,h.ne,hz⟩
theorem ModIn.cells {w:World} {m:Nat} {M:MV} {p:MPtr} {Z:List Nat} (h:ModIn w m M p Z) :
    w.cell? ⟨m,0,none⟩=some (.int .i64 M.n)∧w.cell? ⟨m,1,none⟩=some (.int .i64 M.c)∧w.cell? ⟨m,2,none⟩=some p.ov∧w.cell? ⟨m,3,none⟩=some p.hv∧w.cell? ⟨m,4,none⟩=some p.tv :=
  ⟨cell_at h.blk rfl,cell_at h.blk rfl,cell_at h.blk rfl,cell_at h.blk rfl,cell_at h.blk rfl⟩
theorem boxH (w:World) (x y z:Value):(w.alloc (.cells #[x,y,z] 232 (0,0))).cell? ⟨w.heap.size,0,none⟩=some x∧(w.alloc (.cells #[x,y,z] 232 (0,0))).cell? ⟨w.heap.size,1,none⟩=some y∧(w.alloc (.cells #[x,y,z] 232 (0,0))).cell? ⟨w.heap.size,2,none⟩=some z:=by
  have h:=heap_alloc_new w (.cells #[x,y,z] 232 (0,0));exact ⟨cell_at h rfl,cell_at h rfl,cell_at h rfl⟩
set_option maxRecDepth 100000 in
set_option maxHeartbeats 1600000 in
theorem tables_spec (m:Nat) (M:MV) (p:MPtr) (Z:List Nat) (w:World) (h:ModIn w m M p Z) (hZ:∀ k,k∈Z→k < w.heap.size) (hl:M.held.length≤4194304) :
    Calls Tryz.prog 165 #[.pointer (some ⟨m,0,none⟩)] w fun e w'=>TLQ Z M.tabs w e w':=by
  obtain ⟨ti,hi2,hz2,hs2,hb2⟩:=info_parts Tryz.infoTable;have HI:=Lib.hid (And.intro hi2 (And.intro hz2 (And.intro hs2 hb2)));obtain ⟨fa,fc,hfv,hfa⟩:=h.hs.form;obtain ⟨_,_,_,c3,_⟩:=h.cells;rw [hfv] at c3;have hs:=h.hs;rw [hfv] at hs;have HL:=Lib.hid hs;have HZ:=Lib.hid hZ;have HT:Hid (M.tabs=M.held.map (·.1)):=rfl;generalize M.held=H at *;clear h hZ hi2 hz2 hs2 hb2 hfv hs
  go_enter Tryz.func165,Tryz.ntmps165
  go_wp2_with fail
  go_loopg [3,11] H.length (fun g s3 s8 wr=>∃ i:Nat,H.length - i=g∧i≤H.length∧s8=.int .i64 i∧TLs wr w.heap.size Z s3 ((H.take i).map (·.1))∧Upd [] w wr)
  case atStart=>exact ⟨0,by omega,by omega,rfl,by simpa using TLs.nil w w.heap.size Z,Upd.refl _ _⟩
  case round =>
    obtain ⟨i,rfl,hi,rfl,hT,hU⟩:=hrel
    by_cases hlt:i < H.length
    · obtain ⟨u,hu⟩ : ∃ u,H[i]?=some u:=⟨_,List.getElem?_eq_getElem hlt⟩
      obtain ⟨ga,rfl⟩:=hfa (by omega);obtain ⟨cu,x0,x1,x2,htu⟩:=(HL.out.keep hU (by simp) (by simp)).at_ hu;obtain ⟨ua,uc,hcu,_⟩:=row_nil_len htu.row;subst hcu;obtain ⟨oa,oc,hov,_⟩:=hT.form;subst hov
      have hil:(i:Int) < (H.length:Int):=by omega
      have hul:((H.take i).map (·.1)).length≤4194304:=by
        rw [List.length_map,List.length_take]; omega
      have HS:Hid ((H.take (i + 1)).map (·.1)=(H.take i).map (·.1) ++ [u.1]):=by
        show _=_
        rw [List.take_add_one,hu]; simp
      generalize (H.take i).map (·.1)=UL at *;obtain ⟨z0,z1,z2⟩:=boxH wr (.int .i64 u.1.n) (.slice ua u.1.ws.length uc) (.int .i64 u.2);have hUB:=(Upd.refl [] wr).alloc (.cells #[.int .i64 u.1.n,.slice ua u.1.ws.length uc,.int .i64 u.2] 232 (0,0));have HT3:=Lib.hid (And.intro (hT.keep0 hUB) (And.intro (htu.keep0 hUB) (hU.trans hUB)));obtain ⟨t,k⟩:=u
      simp only at *
      generalize hUW:t.ws.length=UW at *;generalize hun:t.n=un at *;have HUN:=Lib.hid (And.intro hUW hun);obtain ⟨xs,hrow⟩:=HT3.out.1.row;have HROW:=Lib.hid hrow
      have HC2:Hid (∀ z,z∈[Value.int .i64 un,Value.slice ua UW uc]→z.oneCell'=true):=by
        intro z hz; simp at hz; rcases hz with rfl | rfl <;> rfl
      have hsz3:=HT3.out.2.2.size
      have hbs:w.heap.size≤((wr.alloc (.cells #[.int .i64 un,.slice ua UW uc,.int .i64 k] 232 (0,0))).alloc (.cells #[.int .i64 un,.slice ua UW uc] 56 (0,0))).heap.size:=by rw [World.size_alloc]; omega
      clear htu hT hU hu hUB hUW hun hrow
      go_wp2_with (at_builtin; go_must (refine wpList_append_lies _ rfl (.tmp 15) (.tmp 18) 29 rfl w.heap.size 56 ti _ 2 32 Tryz.underlying29 HI.out.1 HI.out.2.1 HI.out.2.2.1 HI.out.2.2.2 (by rfl) (by decide) _ UL.length xs rfl (HROW.out.alloc _) ⟨wr.heap.size + 1,0,none⟩ 1 1 [.int .i64 un,.slice ua UW uc] rfl rfl ?c1 HC2.out (by omega) (by unfold maxLen; omega) (by omega) hbs _ rfl ?_))
      case c1=>exact World.news_of_block (by
        have:=heap_alloc_new (wr.alloc (.cells #[.int .i64 un,.slice ua UW uc,.int .i64 k] 232 (0,0))) (.cells #[.int .i64 un,.slice ua UW uc] 56 (0,0))
        rw [World.size_alloc] at this; exact this)
      intro g5 cap w5 hown hgr hat hlt5
      have HE:Hid (TLs w5 w.heap.size Z (.slice (some ⟨g5,0,none⟩) (UL.length + 1) cap) (UL ++ [t])∧Upd [] w w5):=by
        have hp:=HT3.out.1.push HT3.out.2.1 (by omega) HZ.out hgr HROW.out (by rw [HUN.out.2]; exact hown);refine ⟨hp.1,HT3.out.2.2.then (hp.2 (Value.slice oa UL.length oc).ownBlock.toList fun k hk=>.inl (by rw [hk]; simp)) fun k hk=>.inr ?_⟩
        have hk':(Value.slice oa UL.length oc).ownBlock=some k:=by simpa using hk
        exact (HROW.out.lt k hk').1
      clear hown hgr hat hlt5;go_wp2_with fail
      go_roundg (H.length - (i + 1))
      case measure=>omega
      case rel=>exact ⟨i + 1,rfl,by omega,by simp,by rw [HS.out]; exact HE.out.1,HE.out.2⟩
    · obtain rfl:i=H.length:=by omega
      have hil:¬ ((H.length:Int) < (H.length:Int)):=by omega
      have HE:Hid (TLs wr w.heap.size Z _ M.tabs∧Upd [] w wr):=⟨by rw [HT.out]; rw [List.take_length] at hT; exact hT,hU⟩;clear hT hU;go_wp2_with fail;go_ret;exact ⟨_,rfl,HE.out⟩
structure MV.Fit (M:MV):Prop where
  hl:M.held.length≤65536
  n6:M.n≤6
  ol:M.order.length≤6
  on:∀ x,x∈M.order→x < M.n
  tn:∀ t,t∈M.tabs→t.Ok∧t.n=M.n
  cb:M.c≤1048576
def MV.lev (M:MV):List (List TV):=levT (unlikeT M.tabs) M.order
set_option maxRecDepth 100000 in
set_option maxHeartbeats 1600000 in
theorem mlevels_spec (m:Nat) (M:MV) (p:MPtr) (Z:List Nat) (w:World) (h:ModIn w m M p Z) (hZ:∀ k,k∈Z→k < w.heap.size) (hf:M.Fit) :
    Calls Tryz.prog 167 #[.pointer (some ⟨m,0,none⟩)] w fun e w'=>TLLQ Z M.lev w e w':=by
  obtain ⟨oa,oc,hov,_⟩:=row_nil_len h.os;obtain ⟨_,_,c2,_,_⟩:=h.cells;rw [hov] at c2;have HM:=Lib.hid h;have HF:=Lib.hid hf;have HOV:=Lib.hid hov
  have HZ:Hid (∀ x:World,Upd [] w x→∀ k,k∈Z→k < x.heap.size):=fun x u k hk=>Nat.lt_of_lt_of_le (hZ k hk) u.size
  have HTB:=Lib.hid (tables_spec m M p Z w.drew (h.keep0 (Upd.refl _ _).drew) hZ (by have:=hf.hl; omega))
  have HL0:Hid (M.tabs.length≤4194304):=by show _≤_; unfold MV.tabs; rw [List.length_map]; have:=hf.hl; omega
  clear h hZ hf hov
  go_enter Tryz.func167,Tryz.ntmps167
  go_wp2_with fail
  go_region_held3 (fun w'=>w'.cell? ⟨m,2,none⟩=some (.slice oa M.order.length oc)) (first | exact c2 | exact HT.out.2.cell0 c2 | exact (HT.out.2.trans HS.out.2).cell0 c2) (first | (go_at_call 165; refine HTB.out.mono ?_; rintro e w3 hE; obtain ⟨cf,rfl,hT,hu⟩:=hE.ex; have HT:=Lib.hid (And.intro hT hu.of_drew); clear hE hT hu) | (go_at_call 218; refine (levels_spec _ 0 Z _ _ M.tabs M.order M.n _ HT.out.1 (HZ.out _ HT.out.2) HL0.out (fun t ht=>(HF.out.tn t ht).2) HF.out.n6 (row_keep (by have:=HM.out.os; rw [HOV.out] at this; exact this) fun k hk=>HT.out.2.block k (HM.out.os.lt k (by rw [HOV.out]; exact hk)).2 (by simp)) HF.out.ol HF.out.on).mono ?_; rintro e w4 hE; obtain ⟨cf,rfl,hS,hu⟩:=hE.ex; have HS:=Lib.hid (And.intro hS hu); clear hE hS hu))
  go_wp2_with fail;go_ret;exact ⟨_,rfl,HS.out.1.base HT.out.2.size,HT.out.2.trans HS.out.2⟩
end Go.Proofs.YtpfafhmkbcahhaaGreat
namespace Go.Proofs.YtpfafhmkbcahhaaGreat
open Go.RowKit Go.Maps Go.ChangeMaps Go.WideShapes
theorem row_inj {w:World} {b1 b2:Nat} {e:TypeId} {sz n1 n2:Nat} {v:Value} {xs ys:List Value} (h1:w.ownsRow b1 e sz v n1 xs) (h2:w.ownsRow b2 e sz v n2 ys):n1=n2→xs=ys:=by
  intro hn
  subst hn;obtain ⟨e1,c1⟩:=h1;obtain ⟨e2,c2⟩:=h2
  rcases c1 with ⟨rfl,h0⟩ | ⟨g,cap1,cur1,rfl,hg,hh,_,_,_,k1⟩
  · rcases c2 with ⟨_,_⟩ | ⟨g,cap2,cur2,e,_⟩
    · have a1:xs.length=0:=by rw [e1,h0]; simp
      have a2:ys.length=0:=by rw [e2,h0]; simp
      rw [List.length_eq_zero_iff.1 a1,List.length_eq_zero_iff.1 a2]
    · simp at e
  · rcases c2 with ⟨e,_⟩ | ⟨g',cap2,cur2,e,hg',hh',_,_,_,k2⟩
    · simp at e
    · simp at e
      obtain ⟨rfl,_⟩:=e
      rw [hh] at hh'; cases hh'
      rw [← k1,← k2]
theorem flatTT_one {L:List TV} {cs:List Value} (h:∀ c,c∈cs→c.oneCell'=true):∀ u,u∈flatTT L cs→u.oneCell'=true:=by
  intro u hu
  unfold flatTT at hu;obtain ⟨p,hp,hu⟩:=List.mem_flatMap.1 hu
  simp only [List.mem_cons,List.not_mem_nil,or_false] at hu
  rcases hu with rfl | rfl
  · rfl
  · exact h _ (List.of_mem_zip hp).2
theorem TLs.src {w:World} {n0:Nat} {Z:List Nat} {v:Value} {L:List TV} (h:TLs w n0 Z v L):∃ (A:Option Addr) (c:Nat) (ys:List Value),v=.slice A L.length c∧(A=none→L.length=0)∧w.ownsRow n0 56 2 v L.length ys∧ys.length=L.length * 2 ∧
    (∀ ad,A=some ad→∀ (j:Nat) u,ys[j]?=some u→w.cell? (ad.add j)=some u)∧∀ u,u∈ys→u.oneCell'=true:=by
  obtain ⟨cs,h1,h2,h3⟩:=h.ex;obtain ⟨a,c,hv,hh⟩:=row_nil_len h2;refine ⟨a,c,_,hv,?_,h2,h2.1,?_,flatTT_one fun c hc=>?_⟩
  · rintro rfl
    rcases hh with ⟨_,h0,_⟩ | ⟨g,hg⟩
    · exact h0
    · cases hg
  · intro ad had j u hj
    rcases hh with ⟨h0,_⟩ | ⟨g,hg⟩
    · rw [h0] at had; cases had
    · rw [hg] at had; cases had
      rw [hg] at hv;exact h2.cells (g:=g) (by rw [hv]; rfl) j u hj
  · obtain ⟨i,hi⟩:=List.getElem?_of_mem hc
    have hil:i < L.length:=by
      by_cases e:i < cs.length
      · omega
      · rw [List.getElem?_eq_none (by omega)] at hi; cases hi
    obtain ⟨a,c',hv',_⟩:=row_nil_len (h3 i _ c (List.getElem?_eq_getElem hil) hi).row
    rw [hv']; rfl
theorem TLs.cat {w w5:World} {n0 n1:Nat} {Z:List Nat} {v v2 v':Value} {L L2:List TV} (h:TLs w n0 Z v L) (h2:TLs w n1 Z v2 L2) (hZ:∀ k,k∈Z→k < n0) (hgr:w.grownBy w5 v.ownBlock) {xs ys:List Value}
    (hrow:w.ownsRow n0 56 2 v L.length xs) (hrow2:w.ownsRow n1 56 2 v2 L2.length ys) (hown:w5.ownsRow n0 56 2 v' (L.length + L2.length) (xs ++ ys)) :
    TLs w5 n0 Z v' (L ++ L2)∧Upd v.ownBlock.toList w w5:=by
  obtain ⟨cs,a1,a2,a3⟩:=h.ex;obtain ⟨cs2,b1,b2,b3⟩:=h2.ex;obtain rfl:=row_inj hrow a2 rfl;obtain rfl:=row_inj hrow2 b2 rfl
  have hu:Upd v.ownBlock.toList w w5:=(Upd.refl _ w).grown hgr fun k hk=>.inl (by rw [hk]; simp)
  have keep:∀ {u:TV} {d:Value},TIn w Z d u→TIn w5 Z d u:=fun {u d} hd=>⟨hd.ok,row_keep hd.row fun k hk=>hu.block k (hd.row.lt k hk).2 fun hm=>by
    have hm':v.ownBlock=some k:=by simpa using hm
    obtain ⟨c1,f1,e1⟩:=row_type a2 hm';obtain ⟨c2,f2,e2⟩:=row_type hd.row hk;rw [e1] at e2
    injection e2 with e2
    injection e2 with _ e2 _
    exact absurd e2 (by decide),hd.fr⟩
  refine ⟨⟨⟨cs ++ cs2,by simp [a1,b1],?_,fun i u d hu' hd=>?_⟩,fun k hk hm=>?_⟩,hu⟩
  · have e:flatTT (L ++ L2) (cs ++ cs2)=flatTT L cs ++ flatTT L2 cs2:=by
      unfold flatTT;rw [List.zip_append a1.symm,List.flatMap_append]
    rw [e,List.length_append]; exact hown
  · by_cases hi:i < L.length
    · rw [List.getElem?_append_left hi] at hu'
      rw [List.getElem?_append_left (by omega)] at hd;exact keep (a3 i u d hu' hd)
    · rw [List.getElem?_append_right (by omega)] at hu'
      rw [List.getElem?_append_right (by omega),a1] at hd;exact keep (b3 _ u d hu' hd)
  · have h4:=(hown.lt k hk).1
    have h5:=hZ k hm;omega
set_option maxRecDepth 100000 in
set_option maxHeartbeats 1600000 in
theorem msize_spec (m n0:Nat) (M:MV) (p:MPtr) (Z:List Nat) (v:Value) (L:List TV) (w:World) (h:ModIn w m M p Z) (hZ:∀ k,k∈Z→k < w.heap.size) (hf:M.Fit) (hv:TLs w n0 Z v L) (hL:∀ t,t∈L→t.n=M.n) (hl:L.length≤4194304) :
    Calls Tryz.prog 164 #[.pointer (some ⟨m,0,none⟩),v] w fun e w'=>e=.returned (.int .i64 ((flatT L M.order).length:Nat))∧Upd [] w w':=by
  obtain ⟨oa,oc,hov,_⟩:=row_nil_len h.os;obtain ⟨_,_,c2,_,_⟩:=h.cells;rw [hov] at c2;have hos:=h.os;rw [hov] at hos;have HS:=Lib.hid (size5_spec n0 0 Z v _ L M.order M.n w hv hZ hl hL hf.n6 hos hf.ol hf.on);generalize (flatT L M.order).length=S at *;clear h hZ hf hv hL hl hov hos
  go_enter Tryz.func164,Tryz.ntmps164
  go_wp2_with fail;refine HS.out.mono ?_;rintro e w1 ⟨rfl,hu⟩;have HU:=Lib.hid hu;clear hu HS;go_wp2_with fail;go_ret;exact ⟨rfl,HU.out⟩
theorem flatT_le6 {L:List TV} {o:List Nat} (ho:o.length≤6) (hl:L.length≤4194304):(flatT L o).length≤1610612736:=levF_len6 ho (Nat.le_trans (unlikeT_len L) hl)
def MV.fits (M:MV) (X:List TV):Bool:=decide (2 + (flatT (M.tabs ++ X) M.order).length≤M.c)
set_option maxRecDepth 100000 in
set_option maxHeartbeats 3200000 in
theorem fits9_spec (m n0:Nat) (M:MV) (p:MPtr) (Z:List Nat) (v:Value) (X:List TV) (w:World) (h:ModIn w m M p Z) (hZ:∀ k,k∈Z→k < w.heap.size) (hf:M.Fit) (hv:TLs w n0 Z v X) (hX:∀ t,t∈X→t.n=M.n) (hl:X.length≤1000) :
    Calls Tryz.prog 159 #[.pointer (some ⟨m,0,none⟩),v] w fun e w'=>e=.returned (.bool (M.fits X))∧Upd [] w w':=by
  obtain ⟨ti,hi2,hz2,hs2,hb2⟩:=info_parts Tryz.infoTable;have HI:=Lib.hid (And.intro hi2 (And.intro hz2 (And.intro hs2 hb2)));obtain ⟨_,c1,_,_,_⟩:=h.cells;have HM:=Lib.hid h;have HF:=Lib.hid hf;have HV:=Lib.hid hv;have HX:=Lib.hid hX
  have HZ:Hid (∀ x:World,Upd [] w x→∀ k,k∈Z→k < x.heap.size):=fun x u k hk=>Nat.lt_of_lt_of_le (hZ k hk) u.size
  have htl:M.tabs.length≤65536:=by unfold MV.tabs; rw [List.length_map]; exact hf.hl
  have HTB:=Lib.hid (tables_spec m M p Z w h hZ (by have:=hf.hl; omega));obtain ⟨xa,xc,rfl,_⟩:=hv.form;clear h hZ hf hv hX hi2 hz2 hs2 hb2
  go_enter Tryz.func159,Tryz.ntmps159
  go_wp2_with fail;refine HTB.out.mono ?_;rintro e w1 hE;obtain ⟨cf,rfl,hT,hu⟩:=hE.ex;obtain ⟨A,c,ys,hcf,hA,hrow,hyl,hyc,hy1⟩:=hT.src;have HT:=Lib.hid (And.intro hT hu);have HY:=Lib.hid (And.intro hA (And.intro hrow (And.intro hyl (And.intro hyc hy1))));have hsz:=hu.size;subst hcf;clear hT hu hE HTB hA hrow hyl hyc hy1
  go_wp2_with (at_builtin; go_must (refine wpList_append_src rfl (.tmp 6) (.tmp 8) 29 rfl w.heap.size 56 ti _ 2 32 Tryz.underlying29 HI.out.1 HI.out.2.1 HI.out.2.2.1 HI.out.2.2.2 (by rfl) (by decide) (.slice none 0 0) 0 [] rfl (World.ownsRow_nil _ _ _ _) A M.tabs.length c ys rfl HY.out.1 HY.out.2.2.1 HY.out.2.2.2.1 HY.out.2.2.2.2 (by unfold maxLen; omega) (by omega) hsz ?_))
  intro v2 w2 hown hgr hat
  have hp:=(TLs.nil w1 w.heap.size Z).cat HT.out.1 (HZ.out w (Upd.refl _ _)) hgr (World.ownsRow_nil _ _ _ _) HY.out.2.1 (by rw [List.length_nil,Nat.zero_add,List.nil_append]; exact hown);rw [List.nil_append] at hp;have hu2:Upd [] w1 w2:=hp.2;obtain ⟨A2,c2',ys2,hcf2,hA2,hrow2,hyl2,hyc2,hy12⟩:=hp.1.src;obtain ⟨A3,c3',ys3,hcf3,hA3,hrow3,hyl3,hyc3,hy13⟩:=(HV.out.keep0 (HT.out.2.trans hu2)).src;cases hcf3;subst hcf2;have HT2:=Lib.hid (And.intro hp.1 (HT.out.2.trans hu2));have HY2:=Lib.hid hrow2;have HY3:=Lib.hid (And.intro hA3 (And.intro hrow3 (And.intro hyl3 (And.intro hyc3 hy13))));have hsz2:=HT2.out.2.size;clear hown hgr hat hp hu2 HY HT hA2 hrow2 hyl2 hyc2 hy12 hA3 hrow3 hyl3 hyc3 hy13
  go_wp2_with (at_builtin; go_must (refine wpList_append_src rfl (.tmp 10) (.tmp 11) 29 rfl w.heap.size 56 ti _ 2 32 Tryz.underlying29 HI.out.1 HI.out.2.1 HI.out.2.2.1 HI.out.2.2.2 (by rfl) (by decide) _ M.tabs.length ys2 rfl HY2.out xa X.length xc ys3 rfl HY3.out.1 HY3.out.2.2.1 HY3.out.2.2.2.1 HY3.out.2.2.2.2 (by unfold maxLen; omega) (by omega) hsz2 ?_))
  intro v3 w3 hown hgr hat
  have hp:=HT2.out.1.cat (HV.out.keep0 HT2.out.2) (HZ.out w (Upd.refl _ _)) hgr HY2.out HY3.out.2.1 hown
  have hu3:Upd [] w w3:=HT2.out.2.then hp.2 fun k hk=>.inr (by
    have hk':(Value.slice A2 M.tabs.length c2').ownBlock=some k:=by simpa using hk
    exact (HY2.out.lt k hk').1)
  have HU3:=Lib.hid hu3;have d1:=hu3.cell0 c1;have hbd:=flatT_le6 (L:=M.tabs ++ X) HF.out.ol (by rw [List.length_append]; omega)
  have HSZ:=Lib.hid (msize_spec m w.heap.size M p Z v3 (M.tabs ++ X) w3.drew ((HM.out.keep0 hu3).keep0 (Upd.refl _ _).drew) (HZ.out _ hu3.drew) HF.out (hp.1.keep0 (Upd.refl _ _).drew) (fun t ht=>by
    rcases List.mem_append.1 ht with ht | ht
    · exact (HF.out.tn t ht).2
    · exact HX.out t ht) (by rw [List.length_append]; omega))
  obtain ⟨A4,c4',rfl,_⟩:=hp.1.form;have HFT:Hid (M.fits X=decide (2 + (flatT (M.tabs ++ X) M.order).length≤M.c)):=rfl;have hcb:=HF.out.cb;generalize (flatT (M.tabs ++ X) M.order).length=S at *;generalize (M.tabs ++ X).length=TL at *;clear hown hgr hat hp hu3 HY2 HY3 HT2 c1;have hw2:IntKind.i64.wrap (2 + (S:Int))=2 + (S:Int):=IntWalk.i64_in _ (by omega);go_wp2_with fail
  go_region_held3 (fun w'=>w'.cell? ⟨m,1,none⟩=some (.int .i64 M.c)) (first | exact d1 | exact HS.out.cell0 d1) (first | (go_at_call 164; refine HSZ.out.mono ?_; rintro e w4 ⟨rfl,hu⟩; have HS:=Lib.hid hu.of_drew; clear hu))
  clear hw2;go_wp2_with fail;go_ret
  exact ⟨ret_bool (by
    rw [HFT.out,Bool.eq_iff_iff]
    simp only [decide_eq_true_eq]
    omega),HU3.out.trans HS.out⟩
end Go.Proofs.YtpfafhmkbcahhaaGreat
namespace Go.Proofs.YtpfafhmkbcahhaaGreat
open Go.RowKit Go.Maps Go.ChangeMaps Go.WideShapes
def TV.isC (t:TV):Bool:=decide (t=constT t.n false) || decide (t=constT t.n true)
set_option maxRecDepth 100000 in
set_option maxHeartbeats 1600000 in
theorem isconst_spec (Z:List Nat) (c:Value) (t:TV) (w:World) (h:TIn w Z c t) (hZ:∀ k,k∈Z→k < w.heap.size) :
    Calls Tryz.prog 185 #[tabV t c] w fun e w'=>e=.returned (.bool t.isC)∧Upd [] w w':=by
  obtain ⟨fa,ca,hca,_⟩:=row_nil_len h.row;subst hca;have h16:=h.ok.n16
  have HX:Hid (∀ x:World,Upd [] w x→TIn x Z (.slice fa t.ws.length ca) t):=fun x u=>h.keep0 u
  have HZ:Hid (∀ x:World,Upd [] w x→∀ k,k∈Z→k < x.heap.size):=fun x u k hk=>Nat.lt_of_lt_of_le (hZ k hk) u.size
  have HU0:=Lib.hid (((Upd.refl [] w).alloc (.cells #[.int .i64 t.n,.slice fa t.ws.length ca] 56 (0,0))).drew);have hb:=boxT w (.int .i64 t.n) (.slice fa t.ws.length ca)
  have HSM:Hid (∀ (x:World) (d:Value) (u:TV),Upd [] w x→TIn x Z d u→Calls Tryz.prog 125 #[.agg #[.int .i64 t.n,.slice fa t.ws.length ca],tabV u d] x fun e w'=>e=.returned (.bool (decide (t=u)))∧Upd [] x w'):=fun x d u hx hd=>same_spec Z _ d t u x (h.keep0 hx) hd
  have HD:Hid (t.isC=(decide (t=constT t.n false) || decide (t=constT t.n true))):=rfl;unfold tabV;generalize t.ws.length=L at *;generalize hn:t.n=n at *;obtain ⟨b0,b1⟩:=hb
  have HK:Hid (∀ x:World,Upd [] (w.alloc (.cells #[.int .i64 n,.slice fa L ca] 56 (0,0))).drew x→x.cell? ⟨w.heap.size,0,none⟩=some (.int .i64 n)∧x.cell? ⟨w.heap.size,1,none⟩=some (.slice fa L ca)):=fun x u=>boxT_keep (Upd.of_drew u) ⟨b0,b1⟩
  clear h hZ hn
  by_cases e1:t=constT n false
  · have E1:Hid (decide (t=constT n false)=true):=decide_eq_true e1
    clear e1
    go_enter Tryz.func185,Tryz.ntmps185
    go_wp2_with fail;refine wp_region_until (fun w'=>w'.cell? ⟨w.heap.size,0,none⟩=some (.int .i64 n)∧w'.cell? ⟨w.heap.size,1,none⟩=some (.slice fa L ca)) (fun _=>True) [] (by kernel_rfl) ?_;have hS:=HK.out _ (Upd.refl [] _);refine wpAnyU_takeS (i:=0) (v:=?v1) rfl (by kernel_rfl) (by kernel_rfl) (by kernel_rfl) (by kernel_rfl) (fun _ _ _ h=>h) (Or.inl ⟨by rfl,?hy1⟩) hS (fun _=>trivial) ?rest1
    case hy1=>(intro x hSx; (try dsimp only at hSx); go_simp; try with_reducible rfl)
    (try simp only [Act.put,List.setIfInBounds_toArray])
    refine wpAnyU_takeS (i:=1) (v:=?v2) rfl (by kernel_rfl) (by kernel_rfl) (by kernel_rfl) (by kernel_rfl) (fun _ _ _ h=>h) (Or.inl ⟨by rfl,?hy2⟩) hS (fun _=>trivial) ?rest2
    case hy2=>(intro x hSx; (try dsimp only at hSx); go_simp; try with_reducible rfl)
    (try simp only [Act.put])
    refine wpAnyU_takeS (i:=2) (v:=?v3) rfl (by kernel_rfl) (by kernel_rfl) (by kernel_rfl) (by kernel_rfl) (fun _ _ _ h=>h) (Or.inl ⟨by rfl,?hy3⟩) hS (fun _=>trivial) ?rest3
    case hy3=>(intro x hSx; (try dsimp only at hSx); go_simp; try with_reducible rfl)
    (try simp only [Act.put])
    refine wpAnyU_ready (rs:=[3]) (by kernel_rfl) (by simp) ?_;refine AllReadyU.cons rfl (fun K hK=>?_) ?_
    rotate_left
    exact AllReadyU.nil
    go_simp
    (go_at_call 65; refine (tconst_spec n false _ h16).mono ?_; rintro e w3 hE; obtain ⟨cf,rfl,hT,hu⟩:=hE.ex; have HF:=Lib.hid (And.intro hT hu); clear hE hT hu)
    go_wp2_with fail;refine hK.out _ _ ⟨HK.out _ HF.out.2,fun _=>trivial⟩ (fun hHeld=>?_);clear hK K hS;have hS:=hHeld.1;clear hHeld
    (try simp only [Act.put,List.setIfInBounds_toArray,List.set_cons_zero,List.set_cons_succ])
    refine wpAnyU_ready (rs:=[4]) (by kernel_rfl) (by simp) ?_;refine AllReadyU.cons rfl (fun K hK=>?_) ?_
    rotate_left
    exact AllReadyU.nil
    go_simp
    (go_at_call 125; refine (HSM.out _ _ _ (HU0.out.trans HF.out.2) ((HF.out.1.base HU0.out.size).tin (HZ.out w (Upd.refl _ _)))).mono ?_; rintro e w5 ⟨rfl,hu⟩; rw [E1.out]; have HS1:=Lib.hid hu; clear hu)
    go_wp2_with fail;refine hK.out _ _ ⟨HK.out _ (HF.out.2.trans HS1.out),fun _=>trivial⟩ (fun hHeld=>?_);clear hK K hS;have hS:=hHeld.1;clear hHeld
    (try simp only [Act.put,List.setIfInBounds_toArray,List.set_cons_zero,List.set_cons_succ])
    refine wpAnyU_takeS (i:=5) (v:=?v4) rfl (by kernel_rfl) (by kernel_rfl) (by kernel_rfl) (by kernel_rfl) (fun _ _ _ h=>h) (Or.inl ⟨by rfl,?hy4⟩) hS (fun _=>trivial) ?rest4
    case hy4=>(intro x hSx; (try dsimp only at hSx); go_simp; try with_reducible rfl)
    (try simp only [Act.put,List.setIfInBounds_toArray])
    refine wpAnyU_takeS (i:=6) (v:=undef) rfl (by kernel_rfl) (by kernel_rfl) (by kernel_rfl) (by kernel_rfl) (fun _ _ _ h=>h) (Or.inr ⟨by rfl,rfl⟩) hS (fun _=>trivial) ?rest5
    (try simp only [Act.put])
    refine wpAnyU_takeS (i:=7) (v:=undef) rfl (by kernel_rfl) (by kernel_rfl) (by kernel_rfl) (by kernel_rfl) (fun _ _ _ h=>h) (Or.inr ⟨by rfl,rfl⟩) hS (fun _=>trivial) ?rest6
    (try simp only [Act.put])
    refine wpAnyU_takeS (i:=8) (v:=undef) rfl (by kernel_rfl) (by kernel_rfl) (by kernel_rfl) (by kernel_rfl) (fun _ _ _ h=>h) (Or.inr ⟨by rfl,rfl⟩) hS (fun _=>trivial) ?rest7
    (try simp only [Act.put])
    refine wpAnyU_takeS (i:=9) (v:=undef) rfl (by kernel_rfl) (by kernel_rfl) (by kernel_rfl) (by kernel_rfl) (fun _ _ _ h=>h) (Or.inr ⟨by rfl,rfl⟩) hS (fun _=>trivial) ?rest8
    (try simp only [Act.put])
    refine wpAnyU_takeS (i:=10) (v:=undef) rfl (by kernel_rfl) (by kernel_rfl) (by kernel_rfl) (by kernel_rfl) (fun _ _ _ h=>h) (Or.inr ⟨by rfl,rfl⟩) hS (fun _=>trivial) ?rest9
    (try simp only [Act.put])
    refine wpAnyU_ready (rs:=[11]) (by kernel_rfl) (by simp) ?_;refine AllReadyU.cons rfl (fun K hK=>?_) ?_
    rotate_left
    exact AllReadyU.nil
    go_simp
    refine hK.out _ _ ⟨hS,fun _=>trivial⟩ (fun hHeld=>?_);clear hK K hHeld
    (try simp only [Act.put,List.setIfInBounds_toArray,List.set_cons_zero,List.set_cons_succ])
    refine wpAnyU_ready (rs:=[12]) (by kernel_rfl) (by simp) ?_;refine AllReadyU.cons rfl (fun K hK=>?_) ?_
    rotate_left
    exact AllReadyU.nil
    go_simp
    refine hK.out _ _ ⟨hS,fun _=>trivial⟩ (fun hHeld=>?_);clear hK K hHeld
    (try simp only [Act.put,List.setIfInBounds_toArray,List.set_cons_zero,List.set_cons_succ])
    refine wpAnyU_done (by kernel_rfl) ?_ _
    all_goals (
      go_wp2_with fail;go_ret
      exact ⟨by rw [HD.out,E1.out]; rfl,(HU0.out.trans HF.out.2).trans HS1.out⟩)
  · have E1:Hid (decide (t=constT n false)=false):=decide_eq_false e1
    clear e1
    go_enter Tryz.func185,Tryz.ntmps185
    go_wp2_with fail
    first | (go_region_held3 (fun w' => w'.cell? ⟨w.heap.size, 0, none⟩ = some (.int .i64 n) ∧ w'.cell? ⟨w.heap.size, 1, none⟩ = some (.slice fa L ca)) (first | exact ⟨b0, b1⟩ | exact HK.out _ HF.out.2 | exact HK.out _ (HF.out.2.trans HS1.out) | exact HK.out _ ((HF.out.2.trans HS1.out).trans HT.out.2) | exact HK.out _ (((HF.out.2.trans HS1.out).trans HT.out.2).trans HS2.out)) (first | (go_at_call_of 65 (Value.bool false); refine (tconst_spec n false _ h16).mono ?_; rintro e w3 hE; obtain ⟨cf, rfl, hT, hu⟩ := hE.ex; have HF := Lib.hid (And.intro hT hu); clear hE hT hu) | (go_at_call_of 65 (Value.bool true); refine (tconst_spec n true _ h16).mono ?_; rintro e w4 hE; obtain ⟨ct, rfl, hT, hu⟩ := hE.ex; have HT := Lib.hid (And.intro hT hu); clear hE hT hu) | (go_at_call 125; refine (HSM.out _ _ _ ((HU0.out.trans (HF.out.2.trans HS1.out)).trans HT.out.2) ((HT.out.1.base ((HU0.out.trans HF.out.2).trans HS1.out).size).tin (HZ.out w (Upd.refl _ _)))).mono ?_; rintro e w6 ⟨rfl, hu⟩; have HS2 := Lib.hid hu; clear hu) | (go_at_call 125; refine (HSM.out _ _ _ (HU0.out.trans HF.out.2) ((HF.out.1.base HU0.out.size).tin (HZ.out w (Upd.refl _ _)))).mono ?_; rintro e w5 ⟨rfl, hu⟩; rw [E1.out]; have HS1 := Lib.hid hu; clear hu))) | fail "held3"
    go_wp2_with fail;go_ret;exact ⟨by rw [HD.out,E1.out]; rfl,(HU0.out.trans ((HF.out.2.trans HS1.out).trans HT.out.2)).trans HS2.out⟩
def MV.isLive (M:MV) (t:TV):Bool:=t.isC || M.lev.any fun l=>decide (t∈l)
theorem MV.Fit.lev_len {M:MV} (h:M.Fit):M.lev.length≤6:=by unfold MV.lev; rw [levT_len]; exact h.ol
def holdL:List (TV × Nat)→TV→Nat
  | [],_=>0
  | h :: H,t=>if h.1=t then h.2 else holdL H t
def MV.holds (M:MV) (t:TV):Nat:=holdL M.held t
theorem holdL_at:∀ {H:List (TV × Nat)} {t:TV} {i:Nat} {u:TV × Nat},H[i]?=some u→u.1=t→(∀ h,h∈H.take i→h.1≠t)→holdL H t=u.2
  | [],_,_,_,h,_,_=>by simp at h
  | a :: H,t,0,u,h,e,_=>by simp at h; subst h; simp [holdL,e]
  | a :: H,t,i + 1,u,h,e,hno=>by
    have h1:a.1≠t:=hno a (by simp)
    simp only [holdL,if_neg h1]
    exact holdL_at (i:=i) (by simpa using h) e fun b hb=>hno b (by simp [hb])
theorem holdL_no:∀ {H:List (TV × Nat)} {t:TV},(∀ h,h∈H→h.1≠t)→holdL H t=0
  | [],_,_=>rfl
  | a :: H,t,hno=>by
    simp only [holdL,if_neg (hno a (by simp))]
    exact holdL_no fun b hb=>hno b (by simp [hb])
set_option maxRecDepth 100000 in
set_option maxHeartbeats 1600000 in
theorem holds_spec (m:Nat) (M:MV) (p:MPtr) (Z:List Nat) (c:Value) (t:TV) (w:World) (h:ModIn w m M p Z) (ht:TIn w Z c t) (hl:M.held.length≤4194304) :
    Calls Tryz.prog 85 #[.pointer (some ⟨m,0,none⟩),tabV t c] w fun e w'=>e=.returned (.int .i64 (M.holds t:Nat))∧Upd [] w w':=by
  obtain ⟨ta,tc,rfl,_⟩:=row_nil_len ht.row;obtain ⟨fa,fc,hfv,hfa⟩:=h.hs.form;obtain ⟨_,_,_,c3,_⟩:=h.cells;rw [hfv] at c3;have hs:=h.hs;rw [hfv] at hs;have HL:=Lib.hid hs;have HT:=Lib.hid ht;have HU0:=Lib.hid ((Upd.refl [] w).alloc (.cells #[.int .i64 t.n,.slice ta t.ws.length tc] 56 (0,0)));have hb:=boxT w (.int .i64 t.n) (.slice ta t.ws.length tc)
  have HSM:Hid (∀ (x:World) (d:Value) (u:TV),Upd [] w x→TIn x Z d u→Calls Tryz.prog 125 #[tabV u d,tabV t (.slice ta t.ws.length tc)] x fun e w'=>e=.returned (.bool (decide (u=t)))∧Upd [] x w'):=fun x d u hx hd=>same_spec Z d _ u t x hd (ht.keep0 hx)
  have HD:Hid (M.holds t=holdL M.held t):=rfl;have d3:=HU0.out.cell0 c3;unfold tabV at HSM ⊢;generalize t.ws.length=W at *;generalize t.n=n at *;obtain ⟨b0,b1⟩:=hb
  have HB:Hid (∀ x:World,Upd [] (w.alloc (.cells #[.int .i64 n,.slice ta W tc] 56 (0,0))) x→x.cell? ⟨w.heap.size,0,none⟩=some (.int .i64 n)∧x.cell? ⟨w.heap.size,1,none⟩=some (.slice ta W tc)):=fun x u=>boxT_keep u ⟨b0,b1⟩
  generalize M.held=H at *;clear h hfv hs ht b0 b1 c3
  go_enter Tryz.func85,Tryz.ntmps85
  go_wp2_with fail
  go_loopg [12] H.length (fun g s12 wr=>∃ i:Nat,H.length - i=g∧i≤H.length∧s12=.int .i64 i∧(∀ h,h∈H.take i→h.1≠t)∧Upd [] (w.alloc (.cells #[.int .i64 n,.slice ta W tc] 56 (0,0))) wr)
  case atStart=>exact ⟨0,by omega,by omega,rfl,by simp,Upd.refl _ _⟩
  case round =>
    obtain ⟨i,rfl,hi,rfl,hno,hU⟩:=hrel
    by_cases hlt:i < H.length
    · obtain ⟨u,hu⟩ : ∃ u,H[i]?=some u:=⟨_,List.getElem?_eq_getElem hlt⟩
      obtain ⟨ga,rfl⟩:=hfa (by omega);have hUw:=HU0.out.trans hU;obtain ⟨cu,x0,x1,x2,htu⟩:=(HL.out.keep hUw (by simp) (by simp)).at_ hu;obtain ⟨ua,uc,hcu,_⟩:=row_nil_len htu.row;subst hcu
      have hil:(i:Int) < (H.length:Int):=by omega
      obtain ⟨z0,z1,z2⟩:=boxH wr (.int .i64 u.1.n) (.slice ua u.1.ws.length uc) (.int .i64 u.2);have hUB:=(Upd.refl [] wr).alloc (.cells #[.int .i64 u.1.n,.slice ua u.1.ws.length uc,.int .i64 u.2] 232 (0,0));obtain ⟨y0,y1⟩:=HB.out _ (hU.trans hUB);have HS1:=Lib.hid (HSM.out _ _ u.1 (hUw.trans hUB) (htu.keep0 hUB));have HN:=Lib.hid (And.intro hu (And.intro hno (hUB)));have HUr:=Lib.hid hU;have HZB:Hid ((wr.alloc (.cells #[.int .i64 u.1.n,.slice ua u.1.ws.length uc,.int .i64 u.2] 232 (0,0))).cell? ⟨wr.heap.size,2,none⟩=some (.int .i64 u.2)):=z2;obtain ⟨q,k⟩:=u
      simp only at *
      generalize q.ws.length=UW at *;generalize q.n=un at *;clear hu htu hno hU hUw hUB;go_wp2_with fail;refine HS1.out.mono ?_;rintro e w5 ⟨rfl,hu5⟩;have k2:=hu5.cell0 HZB.out;have HU5:=Lib.hid (HUr.out.trans (HN.out.2.2.trans hu5));clear hu5 HS1 x0 x1 x2 y0 y1 z0 z1 z2 HZB
      by_cases he:q=t
      · rw [decide_eq_true he]
        have HE:Hid (M.holds t=k):=by show _=k; rw [HD.out]; exact holdL_at HN.out.1 he HN.out.2.1
        clear he;go_wp2_with fail;go_ret;exact ⟨ret_int (congrArg _ HE.out.symm),HU0.out.trans HU5.out⟩
      · rw [decide_eq_false he]
        have HE:Hid (∀ h,h∈H.take (i + 1)→h.1≠t):=fun h hh=>by
          rw [List.take_add_one,HN.out.1] at hh
          rcases List.mem_append.1 hh with hh | hh
          · exact HN.out.2.1 h hh
          · simp at hh; subst hh; exact he
        clear he k2;go_wp2_with fail
        go_roundg (H.length - (i + 1))
        case measure=>omega
        case rel=>exact ⟨i + 1,rfl,by omega,by simp,HE.out,HU5.out⟩
    · obtain rfl:i=H.length:=by omega
      have hil:¬ ((H.length:Int) < (H.length:Int)):=by omega
      have HE:Hid (M.holds t=0∧Upd [] w wr):=⟨by rw [HD.out]; exact holdL_no (by rw [List.take_length] at hno; exact hno),HU0.out.trans hU⟩;clear hno hU;go_wp2_with fail;go_ret;exact ⟨by rw [HE.out.1]; rfl,HE.out.2⟩
def MV.top (M:MV) (t:TV):Option Nat:=M.order.find? fun v=>depT t v
def topI:Option Nat→Int
  | some v=>(v:Int)
  | none=>-1
theorem find_take {o:List Nat} {f:Nat→Bool} {i v:Nat} (h:o[i]?=some v) (hv:f v=true) (hno:∀ x,x∈o.take i→f x=false):o.find? f=some v:=by
  induction o generalizing i with
  | nil=>simp at h
  | cons a o ih =>
    cases i with
    | zero=>simp at h; subst h; simp [hv]
    | succ i =>
      rw [List.find?_cons,hno a (by simp)]
      exact ih (by simpa using h) fun x hx=>hno x (by simp [hx])
set_option maxRecDepth 100000 in
set_option maxHeartbeats 1600000 in
theorem top_spec9 (m:Nat) (M:MV) (p:MPtr) (Z:List Nat) (c:Value) (t:TV) (w:World) (h:ModIn w m M p Z) (hZ:∀ k,k∈Z→k < w.heap.size) (hf:M.Fit) (ht:TIn w Z c t) (htn:t.n=M.n) :
    Calls Tryz.prog 220 #[.pointer (some ⟨m,0,none⟩),tabV t c] w fun e w'=>e=.returned (.int .i64 (topI (M.top t)))∧Upd [] w w':=by
  obtain ⟨ta,tc,rfl,_⟩:=row_nil_len ht.row;obtain ⟨oa,oc,hov,hof⟩:=row_nil_len h.os;obtain ⟨_,_,c2,_,_⟩:=h.cells;rw [hov] at c2;have hos:=h.os;rw [hov] at hos;have HO:=Lib.hid hos;have HT:=Lib.hid ht
  have HZ:Hid (∀ x:World,Upd [] w x→∀ k,k∈Z→k < x.heap.size):=fun x u k hk=>Nat.lt_of_lt_of_le (hZ k hk) u.size
  have HU0:=Lib.hid ((Upd.refl [] w).alloc (.cells #[.int .i64 t.n,.slice ta t.ws.length tc] 56 (0,0)));have hb:=boxT w (.int .i64 t.n) (.slice ta t.ws.length tc)
  have HDP:Hid (∀ (x:World) (v:Nat),Upd [] w x→v∈M.order→Calls Tryz.prog 174 #[tabV t (.slice ta t.ws.length tc),.int .i64 v] x fun e w'=>e=.returned (.bool (depT t v))∧Upd [] x w'):=fun x v hx hv=>depends_spec Z _ t v x (ht.keep0 hx) (HZ.out x hx) (by rw [htn]; exact hf.on v hv) (by have:=hf.on v hv; have:=hf.n6; omega)
  have hol:=hf.ol;have HD:Hid (M.top t=M.order.find? fun v=>depT t v):=rfl;have d2:=HU0.out.cell0 c2;unfold tabV at HDP ⊢;generalize t.ws.length=W at *;generalize t.n=n at *;obtain ⟨b0,b1⟩:=hb
  have HB:Hid (∀ x:World,Upd [] (w.alloc (.cells #[.int .i64 n,.slice ta W tc] 56 (0,0))) x→x.cell? ⟨w.heap.size,0,none⟩=some (.int .i64 n)∧x.cell? ⟨w.heap.size,1,none⟩=some (.slice ta W tc)):=fun x u=>boxT_keep u ⟨b0,b1⟩
  generalize M.order=O at *;clear h hZ hf ht hov hos b0 b1 c2 htn
  go_enter Tryz.func220,Tryz.ntmps220
  go_wp2_with fail
  go_loopg [12] O.length (fun g s12 wr=>∃ i:Nat,O.length - i=g∧i≤O.length∧s12=.int .i64 i∧(∀ x,x∈O.take i→depT t x=false)∧Upd [] (w.alloc (.cells #[.int .i64 n,.slice ta W tc] 56 (0,0))) wr)
  case atStart=>exact ⟨0,by omega,by omega,rfl,by simp,Upd.refl _ _⟩
  case round =>
    obtain ⟨i,rfl,hi,rfl,hno,hU⟩:=hrel
    by_cases hlt:i < O.length
    · obtain ⟨x,hx⟩ : ∃ x,O[i]?=some x:=⟨_,List.getElem?_eq_getElem hlt⟩
      obtain ⟨ga,rfl⟩:=row_some HO.out (by omega);have hUw:=HU0.out.trans hU;have x0:wr.cell? ⟨ga,i,none⟩=some (.int .i64 x):=row_cell (row_keep HO.out fun k hk=>hUw.block k (HO.out.lt k hk).2 (by simp)) (by simp [flatN,hx])
      have hil:(i:Int) < (O.length:Int):=by omega
      obtain ⟨y0,y1⟩:=HB.out _ hU;have HS1:=Lib.hid (HDP.out wr x hUw (List.mem_of_getElem? hx));have HN:=Lib.hid (And.intro hx hno);have HUr:=Lib.hid hU;clear hx hno hU hUw;go_wp2_with fail;refine HS1.out.mono ?_;rintro e w5 ⟨rfl,hu5⟩;have HU5:=Lib.hid (HUr.out.trans hu5);clear hu5 HS1 x0 y0 y1
      cases he:depT t x with
      | true =>
        have HE:Hid (M.top t=some x):=by show _=some x; rw [HD.out]; exact find_take HN.out.1 he HN.out.2
        clear he;go_wp2_with fail;go_ret;exact ⟨by rw [HE.out]; rfl,HU0.out.trans HU5.out⟩
      | false =>
        have HE:Hid (∀ z,z∈O.take (i + 1)→depT t z=false):=fun z hz=>by
          rw [List.take_add_one,HN.out.1] at hz
          rcases List.mem_append.1 hz with hz | hz
          · exact HN.out.2 z hz
          · simp at hz; subst hz; exact he
        clear he;go_wp2_with fail
        go_roundg (O.length - (i + 1))
        case measure=>omega
        case rel=>exact ⟨i + 1,rfl,by omega,by simp,HE.out,HU5.out⟩
    · obtain rfl:i=O.length:=by omega
      have hil:¬ ((O.length:Int) < (O.length:Int)):=by omega
      have HE:Hid (M.top t=none∧Upd [] w wr):=⟨by rw [HD.out]; exact List.find?_eq_none.2 fun x hx=>by rw [List.take_length] at hno; rw [hno x hx]; simp,HU0.out.trans hU⟩;clear hno hU;go_wp2_with fail;go_ret;exact ⟨by rw [HE.out.1]; rfl,HE.out.2⟩
end Go.Proofs.YtpfafhmkbcahhaaGreat
