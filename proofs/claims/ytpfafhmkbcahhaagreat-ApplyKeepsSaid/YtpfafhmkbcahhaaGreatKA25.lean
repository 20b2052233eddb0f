import Derived.Test.YtpfafhmkbcahhaaGreatKA24
set_option maxRecDepth 100000
set_option maxHeartbeats 6400000
namespace Go.Proofs.YtpfafhmkbcahhaaGreat
open Go.RowKit Go.Maps Go.ChangeMaps Go.WideShapes
theorem Tryz.infoTabS:(Tryz.prog.info? 56).map (·.size)=some 2:=by kernel_rfl
structure RAnsQ (m:Nat) (M:MV) (p:MPtr) (Z:List Nat) (c:Value) (t:TV) (w:World) (e:Ending) (w':World):Prop where
 en:e=.returned (.tuple #[if M.ansE t=0 then tabV t c else .agg #[.int .i64 0,.slice none 0 0],.int .i64 (M.ansE t)])
 md:ModE m p Z (M.ans t) w w'
theorem ranswer_spec (m:Nat) (M:MV) (p:MPtr) (Z:List Nat) (c:Value) (t:TV) (w:World) (h:ModIn w m M p Z) (hZ:∀ k,k∈Z->k<w.heap.size) (hf:M.Fit) (ht:TIn w Z c t) (htn:t.n=M.n) (hm:∀ u,u∈M.held->u.2<=65535) :
  Calls Tryz.prog 189 #[.pointer (some ⟨m,0,none⟩),tabV t c] w fun e w'=>RAnsQ m M p Z c t w e w':=by
 obtain ⟨ta,tc,rfl,_⟩:=row_nil_len ht.row
 have HA:Hid (∀ z,Upd [] w z->Calls Tryz.prog 94 #[.pointer (some ⟨m,0,none⟩),tabV t (.slice ta t.ws.length tc)] z fun e w'=>e=.returned (.int .i64 (M.ansE t))/\ModE m p Z (M.ans t) z w'):=fun z u =>
  answer9_spec m M p Z _ t z (h.keep0 u) (fun k hk=>Nat.lt_of_lt_of_le (hZ k hk) u.size) hf (ht.keep0 u) htn hm
 have HP:Hid (∀ k,k∈p.all m->k<w.heap.size):=fun k hk=>hZ k (h.sz k hk)
 obtain ⟨E,hE⟩ : ∃ E,M.ansE t=E:=⟨_,rfl⟩;have HEE:=Lib.hid hE;rw [hE] at HA;have HTV:Hid (tabV t (.slice ta t.ws.length tc)=.agg #[.int .i64 t.n,.slice ta t.ws.length tc]):=rfl;rw [HTV.out] at HA ⊢;have hb:=boxT w (.int .i64 t.n) (.slice ta t.ws.length tc);generalize t.ws.length=W at *;generalize t.n=n at *
 have hb1:((w.alloc (.cells #[.int .i64 n,.slice ta W tc] 56 (0,0))).alloc (.cells #[.int .i64 0,.slice none 0 0] 56 (0,0))).heap[w.heap.size]?=some (.cells #[.int .i64 n,.slice ta W tc] 56 (0,0)):=by
  rw [heap_alloc_old _ _ (by rw [World.size_alloc];omega)];exact heap_alloc_new _ _
 have hb2:((w.alloc (.cells #[.int .i64 n,.slice ta W tc] 56 (0,0))).alloc (.cells #[.int .i64 0,.slice none 0 0] 56 (0,0))).heap[w.heap.size+1]?=some (.cells #[.int .i64 0,.slice none 0 0] 56 (0,0)):=by
  have:=heap_alloc_new (w.alloc (.cells #[.int .i64 n,.slice ta W tc] 56 (0,0))) (.cells #[.int .i64 0,.slice none 0 0] 56 (0,0))
  rw [World.size_alloc] at this;exact this
 have HU0:=Lib.hid (((Upd.refl [] w).alloc (.cells #[.int .i64 n,.slice ta W tc] 56 (0,0))).alloc (.cells #[.int .i64 0,.slice none 0 0] 56 (0,0)));have HB:=Lib.hid (And.intro hb1 hb2);clear h hZ hf ht htn hm hb hE hb1 hb2
 go_enter Tryz.func189,Tryz.ntmps189
 obtain ⟨W0,hW0⟩ : ∃ W0,(w.alloc (.cells #[.int .i64 n,.slice ta W tc] 56 (0,0))).alloc (.cells #[.int .i64 0,.slice none 0 0] 56 (0,0))=W0:=⟨_,rfl⟩;rw [hW0] at HU0 HB;have x0:W0.cell? ⟨w.heap.size,0,none⟩=some (.int .i64 n):=cell_at (j:=0) HB.out.1 rfl;have x1:W0.cell? ⟨w.heap.size,1,none⟩=some (.slice ta W tc):=cell_at (j:=1) HB.out.1 rfl;go_upto_region 1 with fail
 try rw [hW0]
 clear hW0;generalize hB2:w.heap.size+1=B2 at *;generalize hB1:w.heap.size=B1 at *;have HBB:=Lib.hid (And.intro hB1 hB2);clear hB1 hB2;go_wp2_with fail;refine (HA.out _ HU0.out).mono ?_;rintro e w2 ⟨rfl,hmd⟩;obtain ⟨p',q1,q2,q3⟩:=hmd.ex
 have hn1:B1∉p.all m:=fun hk=>by have:=HP.out _ hk;have:=HBB.out.1;omega
 have hn2:B2∉p.all m:=fun hk=>by have:=HP.out _ hk;have:=HBB.out.1;have:=HBB.out.2;omega
 have g1:=(q2.block B1 (heap_lt HB.out.1) hn1).trans HB.out.1;have g2:=(q2.block B2 (heap_lt HB.out.2) hn2).trans HB.out.2;have HG:=Lib.hid g2
 have HMD:Hid (∀ z,Upd [B2] w2 z->ModE m p Z (M.ans t) w z):=fun z u=>by
  have hB2p:B2∉p'.all m:=fun hk=>by
   rcases q3 B2 hk with h | h
   ·exact hn2 h
   ·have:=heap_lt HB.out.2;omega
  have hwB:w.heap.size<=B2:=by have:=HBB.out.1;have:=HBB.out.2;omega
  have hZ2:ModIn z m (M.ans t) p' (Z++p'.all m):=by
   have k1:=q1.not_ty g2 (by decide) (by decide) (by decide);refine ⟨(u.block m (heap_lt q1.blk) (fun hm=>by simp at hm;subst hm;exact k1 (MPtr.mem.2 (.inl rfl)))).trans q1.blk,row_keep q1.os fun k hk=>u.block k (q1.os.lt k hk).2 (fun hm=>by simp at hm;subst hm;exact k1 (MPtr.mem.2 (.inr (.inl hk)))),?_,row_keep q1.ts fun k hk=>u.block k (q1.ts.lt k hk).2 (fun hm=>by simp at hm;subst hm;exact k1 (MPtr.mem.2 (.inr (.inr (.inr hk))))),q1.ne,q1.sz⟩;obtain ⟨cs,h1,h2,h3⟩:=q1.hs.ex;refine ⟨cs,h1,row_keep h2 fun k hk=>u.block k (h2.lt k hk).2 (fun hm=>by simp at hm;subst hm;exact k1 (MPtr.mem.2 (.inr (.inr (.inl hk))))),fun i v d hv hd=>?_⟩;have h4:=h3 i v d hv hd;exact ⟨h4.ok,row_keep h4.row fun k hk=>u.block k (h4.row.lt k hk).2 (fun hm=>by simp at hm;subst hm;exact blk_ne h4.row g2 (by decide) hk),h4.fr⟩
  refine ⟨p',hZ2,((HU0.out.mono (by simp)).trans q2).then u (fun k hk=>.inr (by simp at hk;omega)),fun k hk=>?_⟩
  rcases q3 k hk with h | h
  ·exact .inl h
  ·right;have:=HU0.out.size;omega
 have x0:=cell_at (j:=0) g1 rfl;have x1:=cell_at (j:=1) g1 rfl;have y0:=cell_at (j:=0) g2 rfl;have y1:=cell_at (j:=1) g2 rfl;have f0:=frozen_at 0 g2;have f1:=frozen_at 1 g2;clear hmd q1 q2 q3 g1 g2 hn1 hn2
 by_cases he:E=0
 ·subst he
  have HR:Hid (∀ z:World,z.heap[B2]?=some (.cells #[.int .i64 0,.slice none 0 0] 56 (0,0))->((z.setCell ⟨B2,0,none⟩ (.int .i64 n)).setCell ⟨B2,1,none⟩ (.slice ta W tc)).heap[B2]?=some (.cells #[.int .i64 n,.slice ta W tc] 56 (0,0))):=fun z hz=>by
   rw [heap_set_eq (heap_set_eq hz _) _];rfl
  go_wp2_with fail;refine bodyPost_ret (ret_rep rfl _ _ B2 #[.int .i64 n,.slice ta W tc] (.int .i64 0) _ rfl rfl (HR.out _ HG.out) Tryz.underlying56 rfl Tryz.infoTabS) rfl ⟨?_,HMD.out _ (((Upd.refl _ _).setCell (.inl (by simp)) _).setCell (.inl (by simp)) _)⟩;rw [HEE.out,if_pos rfl,HTV.out]
 ·have he2:(E == 0)=false:=by simpa using he
  have HNE:=Lib.hid he
  have HR:Hid (∀ z:World,z.heap[B2]?=some (.cells #[.int .i64 0,.slice none 0 0] 56 (0,0))->((z.setCell ⟨B2,0,none⟩ (.int .i64 0)).setCell ⟨B2,1,none⟩ (.slice none 0 0)).heap[B2]?=some (.cells #[.int .i64 0,.slice none 0 0] 56 (0,0))):=fun z hz=>by
   rw [heap_set_eq (heap_set_eq hz _) _];rfl
  clear he;go_wp2_with fail;refine bodyPost_ret (ret_rep rfl _ _ B2 #[.int .i64 0,.slice none 0 0] (.int .i64 E) _ rfl rfl (HR.out _ HG.out) Tryz.underlying56 rfl Tryz.infoTabS) rfl ⟨?_,HMD.out _ (((Upd.refl _ _).setCell (.inl (by simp)) _).setCell (.inl (by simp)) _)⟩;rw [HEE.out,if_neg HNE.out]
theorem live10_spec (m n0:Nat) (M:MV) (p:MPtr) (Z:List Nat) (v:Value) (L:List TV) (w:World) (h:ModIn w m M p Z) (hZ:∀ k,k∈Z->k<w.heap.size) (hf:M.Fit) (hv:TLs w n0 Z v L) (hlen:L.length<=1000) (hl:∀ t,t∈L->M.isLive t=true) :
  Calls Tryz.prog 191 #[.pointer (some ⟨m,0,none⟩),v] w fun e w'=>e=.returned (.bool true)/\Upd [] w w':=by
 obtain ⟨fa,fc,rfl,hfa⟩:=hv.form;have HL:=Lib.hid hv
 have HIL:Hid (∀ (x:World) (d:Value) (u:TV),Upd [] w x->TIn x Z d u->u∈L->Calls Tryz.prog 108 #[.pointer (some ⟨m,0,none⟩),tabV u d] x fun e w'=>e=.returned (.bool true)/\Upd [] x w'):=fun x d u hx hd hu=>by
  have:=islive_spec m M p Z d u x (h.keep0 hx) (fun k hk=>Nat.lt_of_lt_of_le (hZ k hk) hx.size) hf hd;rw [hl u hu] at this;exact this
 unfold tabV at HIL;clear h hZ hf hv hl
 go_enter Tryz.func191,Tryz.ntmps191
 go_wp2_with fail
 go_loopg [9] L.length (fun g s9 wr=>∃ i:Nat,L.length-i=g/\i<=L.length/\s9=.int .i64 i/\Upd [] w wr)
 case atStart=>exact ⟨0,by omega,by omega,rfl,Upd.refl _ _⟩
 case round =>
  obtain ⟨i,rfl,hi,rfl,hU⟩:=hrel
  by_cases hlt:i<L.length
  ·obtain ⟨u,hu⟩ : ∃ u,L[i]?=some u:=⟨_,List.getElem?_eq_getElem hlt⟩
   obtain ⟨ga,rfl⟩:=hfa (by omega);obtain ⟨cu,x0,x1,htu⟩:=(HL.out.keep0 hU).at_ hu;obtain ⟨ua,uc,hcu,_⟩:=row_nil_len htu.row;subst hcu;obtain ⟨z0,z1⟩:=boxT wr (.int .i64 u.n) (.slice ua u.ws.length uc)
   have hil:(i:Int)<(L.length:Int):=by omega
   have HC:=Lib.hid (HIL.out (wr.alloc (.cells #[.int .i64 u.n,.slice ua u.ws.length uc] 56 (0,0))) _ u (hU.alloc _) (htu.keep0 ((Upd.refl [] wr).alloc _)) (List.mem_of_getElem? hu));have HU:=Lib.hid (hU.alloc (.cells #[.int .i64 u.n,.slice ua u.ws.length uc] 56 (0,0)));generalize u.ws.length=UW at *;generalize u.n=un at *;clear htu hU hu;go_wp2_with fail;refine HC.out.mono ?_;rintro e w3 ⟨rfl,hu3⟩;have HU3:=Lib.hid (HU.out.trans hu3);clear hu3 HC x0 x1 z0 z1;go_wp2_with fail
   go_roundg (L.length-(i+1))
   case measure=>omega
   case rel=>exact ⟨i+1,rfl,by omega,by simp,HU3.out⟩
  ·obtain rfl:i=L.length:=by omega
   have hil:¬ ((L.length:Int)<(L.length:Int)):=by omega
   have HU:=Lib.hid hU;clear hU;go_wp2_with fail;go_ret;exact ⟨rfl,HU.out⟩
theorem TIn.box {w w':World} {Z:List Nat} {c:Value} {t:TV} {B:Nat} {C:Array Value} {fr:Nat × Nat} (h:TIn w Z c t) (hb:w.heap[B]?=some (.cells C 56 fr)) (u:Upd [B] w w'):TIn w' Z c t :=
 ⟨h.ok,row_keep h.row fun k hk=>u.block k (h.row.lt k hk).2 fun hm=>by simp at hm;subst hm;exact blk_ne h.row hb (by decide) hk,h.fr⟩
theorem TIn.less {w:World} {Z X:List Nat} {c:Value} {t:TV} (h:TIn w (Z++X) c t):TIn w Z c t:=⟨h.ok,h.row,fun k hk hm=>h.fr k hk (List.mem_append.2 (.inl hm))⟩
theorem ModIn.box {w w':World} {m:Nat} {M:MV} {p:MPtr} {Z:List Nat} {B:Nat} {C:Array Value} {fr:Nat × Nat} (h:ModIn w m M p Z) (hb:w.heap[B]?=some (.cells C 56 fr)) (u:Upd [B] w w'):ModIn w' m M p Z:=by
 have k1:=h.not_ty hb (by decide) (by decide) (by decide);refine ⟨(u.block m (heap_lt h.blk) (fun hm=>by simp at hm;subst hm;exact k1 (MPtr.mem.2 (.inl rfl)))).trans h.blk,row_keep h.os fun k hk=>u.block k (h.os.lt k hk).2 (fun hm=>by simp at hm;subst hm;exact k1 (MPtr.mem.2 (.inr (.inl hk)))),?_,row_keep h.ts fun k hk=>u.block k (h.ts.lt k hk).2 (fun hm=>by simp at hm;subst hm;exact k1 (MPtr.mem.2 (.inr (.inr (.inr hk))))),h.ne,h.sz⟩;obtain ⟨cs,h1,h2,h3⟩:=h.hs.ex;exact ⟨cs,h1,row_keep h2 fun k hk=>u.block k (h2.lt k hk).2 (fun hm=>by simp at hm;subst hm;exact k1 (MPtr.mem.2 (.inr (.inr (.inl hk))))),fun i v d hv hd=>(h3 i v d hv hd).box hb u⟩
structure MV.Cnt (M:MV):Prop where
 nd:(M.held.map (·.1)).Nodup
 ct:∀ u,u∈M.held->0<u.2/\u.2<=65535
theorem MV.Cnt.hold1 {M:MV} (h:M.Cnt) (t:TV):(M.hold1 t).Cnt:=by
 unfold MV.hold1;split
 ·exact h
 ·split
  ·exact h
  ·rename_i h0
   refine ⟨incL_nodup h.nd t,fun u hu=>?_⟩;obtain ⟨u,c⟩:=u
   rcases (mem_incL h.nd).1 hu with ⟨_,h1⟩ | ⟨_,h1⟩
   ·exact h.ct _ h1
   ·have h0:¬ 65535<=holdL M.held t:=h0
    subst h1
    simp only
    omega
theorem MV.Cnt.retrail {M:MV} (h:M.Cnt) (t:List Nat):MV.Cnt { M with trail:=t }:=⟨h.nd,h.ct⟩
theorem MV.Cnt.ans {M:MV} (h:M.Cnt) (t:TV):(M.ans t).Cnt:=by
 unfold MV.ans;split
 ·exact (h.hold1 t).retrail []
 ·exact h
theorem MV.Cnt.rel {M:MV} (h:M.Cnt) (t:TV):(M.rel t).Cnt:=by
 unfold MV.rel;split
 ·exact h
 ·refine ⟨(decL_sub M.held t).nodup h.nd,fun u hu=>?_⟩
  obtain ⟨u,c⟩:=u
  rcases (mem_decL h.nd fun x hx=>(h.ct x hx).1).1 hu with ⟨_,h1⟩ | ⟨_,h1,h2⟩
  ·exact h.ct _ h1
  ·have h3:0<holdL M.held t:=by omega
   have h4:=(h.ct _ (mem_of_holdL h3)).2
   simp only at h4 ⊢
   omega
theorem MV.hold1_same (M:MV) (t:TV):(M.hold1 t).n=M.n/\(M.hold1 t).c=M.c/\(M.hold1 t).order=M.order:=by
 unfold MV.hold1;split
 ·exact ⟨rfl,rfl,rfl⟩
 ·split
  ·exact ⟨rfl,rfl,rfl⟩
  ·exact ⟨rfl,rfl,rfl⟩
theorem MV.ans_same (M:MV) (t:TV):(M.ans t).n=M.n/\(M.ans t).c=M.c/\(M.ans t).order=M.order/\(M.ans t).held.length<=M.held.length+1:=by
 unfold MV.ans;split
 ·obtain ⟨h1,h2,h3⟩:=M.hold1_same t
  exact ⟨h1,h2,h3,M.hold1_len t⟩
 ·exact ⟨rfl,rfl,rfl,by omega⟩
theorem MV.Fit.ans {M:MV} (h:M.Fit) (hl:M.held.length+1<=65536) {t:TV} (ht:t.Ok) (hn:t.n=M.n):(M.ans t).Fit:=by
 unfold MV.ans;split
 ·exact (h.hold1 hl ht hn).retrail []
 ·exact h
structure RfdI (w0:World) (m B op:Nat) (p:MPtr) (Z:List Nat) (M0:MV) (a0:TV) (tabs:List TV) (i:Nat) (wr:World):Prop where
 ex:∃ (M1:MV) (a:TV) (c:Value) (q:MPtr),ModIn wr m M1 q (Z++q.all m)/\TIn wr (Z++q.all m) c a/\wr.heap[B]?=some (.cells #[.int .i64 a.n,c] 56 (0,0))/\foldM op M0 a0 tabs=foldM op M1 a (tabs.drop i) /\
  Upd (p.all m) w0 wr/\Sub (p.all m) w0 (q.all m)/\M1.trail=[]/\M1.Cnt/\M1.Fit/\a.n=M0.n/\M1.n=M0.n/\M1.held.length<=M0.held.length+i
structure RfdNo (w:World) (m:Nat) (p:MPtr) (Z:List Nat) (M':MV) (w':World):Prop where
 md:∀ z,Upd [] (w'.setCell ⟨m,4,none⟩ (.slice none 0 0)) z->ModE m p Z M' w z
 tv:∃ v cs,w'.heap[m]?=some (.cells cs 90 (0,0))/\cs[4]?=some v
structure RfdQ (m op:Nat) (M:MV) (p:MPtr) (Z:List Nat) (a0:TV) (tabs:List TV) (w:World) (e:Ending) (w':World):Prop where
 yes:(foldM op { M with trail:=[] } a0 tabs).e=0->∃ (c:Value) (q:MPtr),e=.returned (.tuple #[tabV (foldM op { M with trail:=[] } a0 tabs).a c,.int .i64 0])/\ModIn w' m (foldM op { M with trail:=[] } a0 tabs).M q (Z++q.all m)/\TIn w' (Z++q.all m) c (foldM op { M with trail:=[] } a0 tabs).a/\Upd (p.all m) w w'/\Sub (p.all m) w (q.all m)
 no:(foldM op { M with trail:=[] } a0 tabs).e≠0->e=.returned (.tuple #[.agg #[.int .i64 0,.slice none 0 0],.int .i64 (foldM op { M with trail:=[] } a0 tabs).e])/\RfdNo w m p Z (foldM op { M with trail:=[] } a0 tabs).M w'/\Upd (p.all m) w w'
theorem TIn.step {w w7:World} {Z:List Nat} {c:Value} {t:TV} {q q2:MPtr} {m:Nat} (h:TIn w (Z++q.all m) c t) (s2:Upd (q.all m) w w7) (s3:Sub (q.all m) w (q2.all m)):TIn w7 (Z++q2.all m) c t:=by
 have h1:=h.keep s2 fun k hk=>.inl (List.mem_append.2 (.inr hk))
 refine ⟨h1.ok,h1.row,fun k hk hm=>?_⟩
 rcases List.mem_append.1 hm with hm | hm
 ·exact h.fr k hk (List.mem_append.2 (.inl hm))
 ·rcases s3 k hm with h2 | h2
  ·exact h.fr k hk (List.mem_append.2 (.inr h2))
  ·have:=(h.row.lt k hk).2;omega
theorem ModIn.less {w:World} {m:Nat} {M:MV} {q2:MPtr} {Z X:List Nat} (h:ModIn w m M q2 ((Z++X)++q2.all m)):ModIn w m M q2 (Z++q2.all m) :=
 h.apart (fun k hk=>.inl (by
  rcases List.mem_append.1 hk with h | h
  ·exact List.mem_append.2 (.inl (List.mem_append.2 (.inl h)))
  ·exact List.mem_append.2 (.inr h))) fun k hk=>List.mem_append.2 (.inr hk)
theorem Sub.step {F F1 F2:List Nat} {w w1:World} (h:Sub F w F1) (k:Sub F1 w1 F2) (hs:w.heap.size<=w1.heap.size):Sub F w F2:=fun x hx=>by
 rcases k x hx with h1 | h1
 ·exact h x h1
 ·right;omega
theorem ModIn.nil4 {w f:World} {m:Nat} {M:MV} {q:MPtr} {Z:List Nat} {B:Nat} {C:Array Value} {fr:Nat × Nat} (h:ModIn w m M q Z) (hb:w.heap[B]?=some (.cells C 56 fr)) (u:Upd [m,B] w f)
  (hm:f.heap[m]?=some (.cells #[.int .i64 M.n,.int .i64 M.c,q.ov,q.hv,.slice none 0 0] 90 (0,0))):ModIn f m { M with trail:=[] } ⟨q.ov,q.hv,.slice none 0 0⟩ Z:=by
 have k1:=h.not_ty hb (by decide) (by decide) (by decide)
 have km:∀ {k:Nat} {v:Value} {b:Nat} {e:TypeId} {sz n:Nat} {xs:List Value},e≠90->w.ownsRow b e sz v n xs->v.ownBlock=some k->k≠m:=fun {k v b e sz n xs} he hr hk e1=>by
  subst e1;obtain ⟨c1,f1,e1⟩:=row_type hr hk;rw [h.blk] at e1
  injection e1 with e1
  injection e1 with _ e1 _
  exact he e1.symm
 obtain ⟨cs,h1,h2,h3⟩:=h.hs.ex;refine ⟨hm,row_keep h.os fun k hk=>u.block k (h.os.lt k hk).2 (fun hx=>?_),⟨cs,h1,row_keep h2 fun k hk=>u.block k (h2.lt k hk).2 (fun hx=>?_),fun i v d hv hd=>?_⟩,World.ownsRow_nil _ _ _ _,fun k _ hk=>by simp [Value.ownBlock] at hk,fun k hk=>?_⟩
 ·simp at hx
  rcases hx with hx | hx
  ·exact km (by decide) h.os hk hx
  ·subst hx;exact k1 (MPtr.mem.2 (.inr (.inl hk)))
 ·simp at hx
  rcases hx with hx | hx
  ·exact km (by decide) h2 hk hx
  ·subst hx;exact k1 (MPtr.mem.2 (.inr (.inr (.inl hk))))
 ·have h4:=h3 i v d hv hd
  refine ⟨h4.ok,row_keep h4.row fun k hk=>u.block k (h4.row.lt k hk).2 (fun hx=>?_),h4.fr⟩
  simp at hx
  rcases hx with hx | hx
  ·exact km (by decide) h4.row hk hx
  ·subst hx;exact blk_ne h4.row hb (by decide) hk
 ·rcases MPtr.mem.1 hk with rfl | h1 | h1 | h1
  ·exact h.sz _ (MPtr.mem.2 (.inl rfl))
  ·exact h.sz _ (MPtr.mem.2 (.inr (.inl h1)))
  ·exact h.sz _ (MPtr.mem.2 (.inr (.inr (.inl h1))))
  ·simp [Value.ownBlock] at h1
theorem rfold_spec (m op n1:Nat) (M:MV) (p:MPtr) (Z:List Nat) (c0:Value) (a0:TV) (lv:Value) (tabs:List TV) (w:World) (h:ModIn w m M p Z) (hZ:∀ k,k∈Z->k<w.heap.size) (hf:M.Fit) (hc:M.Cnt) (h0:TIn w Z c0 a0) (han:a0.n=M.n) (hE0:M.ansE a0=0) (hic:a0.isC=true)
  (hv:TLs w n1 Z lv tabs) (hlen:tabs.length<=1000) (hlive:∀ t,t∈tabs->M.isLive t=true) (htn:∀ t,t∈tabs->t.n=M.n) (hop:op<=15) (hhl:M.held.length+1001<=65536) :
  Calls Tryz.prog 194 #[.pointer (some ⟨m,0,none⟩),.int .u8 op,tabV a0 c0,lv] w fun e w'=>RfdQ m op M p Z a0 tabs w e w':=by
 obtain ⟨aa,ac,rfl,_⟩:=row_nil_len h0.row;obtain ⟨la,lc,rfl,hla⟩:=hv.form;obtain ⟨ta,tc,htv,_⟩:=row_nil_len h.ts
 have hans:M.ans a0={ M with trail:=[] }:=by unfold MV.ans;rw [if_pos hE0];unfold MV.hold1;rw [if_pos hic]
 have HLV:Hid (∀ z,Upd [] w z->Calls Tryz.prog 191 #[.pointer (some ⟨m,0,none⟩),.slice la tabs.length lc] z fun e w'=>e=.returned (.bool true)/\Upd [] z w'):=fun z u =>
  live10_spec m n1 M p Z _ tabs z (h.keep0 u) (fun k hk=>Nat.lt_of_lt_of_le (hZ k hk) u.size) hf (hv.keep0 u) hlen hlive
 have HAN:Hid (∀ z,Upd [] w z->Calls Tryz.prog 189 #[.pointer (some ⟨m,0,none⟩),tabV a0 (.slice aa a0.ws.length ac)] z fun e w'=>RAnsQ m M p Z (.slice aa a0.ws.length ac) a0 z e w'):=fun z u =>
  ranswer_spec m M p Z _ a0 z (h.keep0 u) (fun k hk=>Nat.lt_of_lt_of_le (hZ k hk) u.size) hf (h0.keep0 u) han fun u hu=>(hc.ct u hu).2
 have HP:Hid (∀ k,k∈p.all m->k<w.heap.size):=fun k hk=>hZ k (h.sz k hk)
 have HM:=Lib.hid (And.intro h (And.intro hZ (And.intro hf (And.intro hc (And.intro h0 (And.intro han (And.intro hv (And.intro htn (And.intro hop hhl)))))))));have HE0:=Lib.hid (And.intro hE0 hans);have c4:=h.cells.2.2.2.2;rw [htv] at c4;obtain ⟨tl,htl⟩ : ∃ tl,M.trail.length=tl:=⟨_,rfl⟩;rw [htl] at c4;obtain ⟨W,hW⟩ : ∃ W,a0.ws.length=W:=⟨_,rfl⟩;obtain ⟨n,hn⟩ : ∃ n,a0.n=n:=⟨_,rfl⟩;have HWN:=Lib.hid (And.intro hW hn)
 have HTV:Hid (tabV a0 (.slice aa W ac)=.agg #[.int .i64 n,.slice aa W ac]):=by show _=_;unfold tabV;rw [hn]
 rw [hW] at HAN HM;rw [HTV.out] at HAN;rw [hW,HTV.out]
 have hb1:((w.alloc (.cells #[.int .i64 n,.slice aa W ac] 56 (0,0))).alloc (.cells #[.int .i64 0,.slice none 0 0] 56 (0,0))).heap[w.heap.size]?=some (.cells #[.int .i64 n,.slice aa W ac] 56 (0,0)):=by
  rw [heap_alloc_old _ _ (by rw [World.size_alloc];omega)];exact heap_alloc_new _ _
 have hb2:((w.alloc (.cells #[.int .i64 n,.slice aa W ac] 56 (0,0))).alloc (.cells #[.int .i64 0,.slice none 0 0] 56 (0,0))).heap[w.heap.size+1]?=some (.cells #[.int .i64 0,.slice none 0 0] 56 (0,0)):=by
  have:=heap_alloc_new (w.alloc (.cells #[.int .i64 n,.slice aa W ac] 56 (0,0))) (.cells #[.int .i64 0,.slice none 0 0] 56 (0,0))
  rw [World.size_alloc] at this;exact this
 have hu0:=(((Upd.refl [] w).alloc (.cells #[.int .i64 n,.slice aa W ac] 56 (0,0))).alloc (.cells #[.int .i64 0,.slice none 0 0] 56 (0,0)));clear h hZ hf hc h0 han hE0 hic hv hlive htn hop hhl htv hans htl hW hn
 go_enter Tryz.func194,Tryz.ntmps194
 obtain ⟨W0,hW0⟩ : ∃ W0,(w.alloc (.cells #[.int .i64 n,.slice aa W ac] 56 (0,0))).alloc (.cells #[.int .i64 0,.slice none 0 0] 56 (0,0))=W0:=⟨_,rfl⟩;rw [hW0] at hb1 hb2 hu0;have HU0:=Lib.hid hu0;have HB:=Lib.hid (And.intro hb1 hb2);go_upto_region 1 with fail
 try rw [hW0]
 clear hW0 hu0 hb1 hb2;generalize hB2:w.heap.size+1=B8 at *;generalize hB1:w.heap.size=B6 at *;have HBB:=Lib.hid (And.intro hB1 hB2);clear hB1 hB2;go_wp2_with fail;refine (HLV.out _ HU0.out).mono ?_;rintro e w1 ⟨rfl,hu⟩;have HU1:=Lib.hid (HU0.out.trans hu);have HU01:=Lib.hid hu;have d4:w1.cell? ⟨m,4,none⟩=some (.slice ta tl tc):=HU1.out.cell0 c4;have x0:=hu.cell0 (cell_at (j:=0) HB.out.1 rfl);have x1:=hu.cell0 (cell_at (j:=1) HB.out.1 rfl);clear hu c4;go_wp2_with fail;refine (HAN.out _ HU1.out).mono ?_;rintro e w2 hQ;obtain rfl:=hQ.en;rw [HE0.out.1,if_pos rfl,HTV.out];have hmd:=hQ.md;rw [HE0.out.2] at hmd;obtain ⟨q0,r1,r2,r3⟩:=hmd.ex;have hb11:=heap_alloc_new w2 (.cells #[.int .i64 n,.slice aa W ac] 56 (0,0));have hu3:Upd [] w2 (w2.alloc (.cells #[.int .i64 n,.slice aa W ac] 56 (0,0))):=(Upd.refl _ _).alloc _;have hB0:W0.heap.size<=w2.heap.size:=Nat.le_trans HU01.out.size r2.size
 have HI0:Hid (RfdI W0 m w2.heap.size op p Z { M with trail:=[] } a0 tabs 0 (w2.alloc (.cells #[.int .i64 n,.slice aa W ac] 56 (0,0)))):=by
  obtain ⟨m1,m2,m3,m4,m5,m6,m7,m8,m9,m10⟩:=HM.out
  have hsub:Sub Z w1 (Z++q0.all m):=fun k hk=>by
   rcases List.mem_append.1 hk with h | h
   ·exact .inl h
   ·rcases r3 k h with h | h
    ·exact .inl (m1.sz k h)
    ·exact .inr h
  refine ⟨{ M with trail:=[] },a0,.slice aa W ac,q0,r1.keep0 hu3,(((m5.keep0 HU1.out).apart hsub).keep r2 fun k hk=>.inl (List.mem_append.2 (.inl (m1.sz k hk)))).keep0 hu3,by rw [HWN.out.2];exact hb11,rfl,((HU01.out.mono (by simp)).trans r2).trans (hu3.mono (by simp)),fun k hk=>?_,rfl,m4.retrail [],m3.retrail [],m6,rfl,by simp⟩
  rcases r3 k hk with h | h
  ·exact .inl h
  ·right;have:=HU01.out.size;omega
 clear hQ hmd r1 r2 r3 hb11 hu3 x0 x1 d4;go_upto_region 5 with fail;generalize hBB:w2.heap.size=B at *;have HBW:=Lib.hid (And.intro hB0 hBB);clear hB0 hBB;generalize hw3:w2.alloc (.cells #[.int .i64 n,.slice aa W ac] 56 (0,0))=w3 at *;clear hw3;go_wp2_with fail
 go_loopg [12,33] tabs.length (fun gg s12 s33 wr=>∃ i:Nat,tabs.length-i=gg/\i<=tabs.length/\s12=.int .i64 0/\s33=.int .i64 i/\RfdI W0 m B op p Z { M with trail:=[] } a0 tabs i wr)
 case atStart=>exact ⟨0,by omega,by omega,rfl,rfl,HI0.out⟩
 case round =>
  obtain ⟨i,rfl,hi,rfl,rfl,hI⟩:=hrel;obtain ⟨M1,a,c,q,k1,k2,k3,k4,k5,k6,k7,k8,k9,k10,k11,k12⟩:=hI.ex;obtain ⟨ca,cc,rfl,_⟩:=row_nil_len k2.row;have hb8:=(k5.block B8 (heap_lt HB.out.2) (fun hk=>by have:=HP.out _ hk;have:=HBB.out.1;have:=HBB.out.2;omega)).trans HB.out.2
  by_cases hlt:i<tabs.length
  ·have hil:(i:Int)<(tabs.length:Int):=by omega
   obtain ⟨t,ht⟩ : ∃ t,tabs[i]?=some t:=⟨_,List.getElem?_eq_getElem hlt⟩;obtain ⟨ga,rfl⟩:=hla (by omega);obtain ⟨m1,m2,m3,m4,m5,m6,m7,m8,m9,m10⟩:=HM.out;have hvr:=m7.keep ((HU0.out.mono (by simp)).trans k5:Upd (p.all m) w wr) (fun k hk=>.inl (m1.sz k hk));obtain ⟨ct,x0,x1,htu⟩:=hvr.at_ ht;obtain ⟨ua,uc,rfl,_⟩:=row_nil_len htu.row;have htn:=m8 t (List.mem_of_getElem? ht);have h7:t.n=a.n:=htn.trans k10.symm;have hwr:w.heap.size<=wr.heap.size:=((HU0.out.mono (by simp)).trans k5:Upd (p.all m) w wr).size
   have hZq:∀ k,k∈Z++q.all m->k<wr.heap.size:=fun k hk=>by
    rcases List.mem_append.1 hk with h | h
    ·have:=m2 k h;have:=HBB.out.1;omega
    ·exact k1.lt k h
   have han16:=k2.ok.n16;obtain ⟨b,hb⟩ : ∃ b,binT op a t=b:=⟨_,rfl⟩
   have hbo:b.Ok/\b.n=a.n:=by rw [<- hb];exact binT_ok han16
   have HRB:Hid (∀ z,Upd [] wr z->Calls Tryz.prog 192 #[.int .u8 op,.agg #[.int .i64 a.n,.slice ca a.ws.length cc],.agg #[.int .i64 t.n,.slice ua t.ws.length uc]] z fun e w'=>TabQ b z e w'):=fun z u=>by
    have:=rbinary_spec op Z _ _ a t z (k2.less.keep0 u) (htu.keep0 u) h7 m9;rw [hb] at this;exact this
   have HA2:Hid (∀ (cb:Value) z,Upd [] wr z->TIn z (Z++q.all m) cb b->Calls Tryz.prog 189 #[.pointer (some ⟨m,0,none⟩),tabV b cb] z fun e w'=>RAnsQ m M1 q (Z++q.all m) cb b z e w'):=fun cb z u hti =>
    ranswer_spec m M1 q _ cb b z (k1.keep0 u) (fun k hk=>Nat.lt_of_lt_of_le (hZq k hk) u.size) k9 hti (hbo.2.trans (k10.trans k11.symm)) fun x hx=>(k8.ct x hx).2
   have HRL:Hid (∀ (M2:MV) (q2:MPtr) (z:World),ModIn z m M2 q2 (Z++q2.all m)->(∀ k,k∈Z++q2.all m->k<z.heap.size)->TIn z (Z++q2.all m) (.slice ca a.ws.length cc) a->M2.Cnt->M2.held.length<=4194304->Calls Tryz.prog 227 #[.pointer (some ⟨m,0,none⟩),.agg #[.int .i64 a.n,.slice ca a.ws.length cc]] z fun e w'=>e=.returned (.int .i64 (M2.relE a))/\ModE m q2 (Z++q2.all m) (M2.rel a) z w'):=fun M2 q2 z z1 z2 z3 z4 z5 =>
    release9_spec m M2 q2 _ _ a z z1 z2 z3 z5 z4.ct
   have hk4:foldM op { M with trail:=[] } a0 tabs=if M1.ansE b=0 then foldM op ((M1.ans b).rel a) b (tabs.drop (i+1)) else ⟨M1.rel a,a,M1.ansE b⟩:=by
    have hdrop:tabs.drop i=t::tabs.drop (i+1):=by
     obtain ⟨hi',hv⟩:=List.getElem?_eq_some_iff.1 ht;rw [List.drop_eq_getElem_cons hi',hv]
    rw [k4,hdrop,<- hb];rfl
   have hbx1:=heap_alloc_new wr (.cells #[.int .i64 t.n,.slice ua t.ws.length uc] 56 (0,0));have hbx2:=heap_alloc_new (wr.alloc (.cells #[.int .i64 t.n,.slice ua t.ws.length uc] 56 (0,0))) (.cells #[.int .i64 0,.slice none 0 0] 56 (0,0));rw [World.size_alloc] at hbx2;have hbx1':=(heap_alloc_old (wr.alloc (.cells #[.int .i64 t.n,.slice ua t.ws.length uc] 56 (0,0))) (.cells #[.int .i64 0,.slice none 0 0] 56 (0,0)) (heap_lt hbx1)).trans hbx1;have hu5:Upd [] wr ((wr.alloc (.cells #[.int .i64 t.n,.slice ua t.ws.length uc] 56 (0,0))).alloc (.cells #[.int .i64 0,.slice none 0 0] 56 (0,0))):=((Upd.refl _ _).alloc _).alloc _;have HX:=Lib.hid (And.intro k1 (And.intro k2 (And.intro k3 (And.intro k5 (And.intro k6 (And.intro k7 (And.intro k8 (And.intro k9 (And.intro k10 (And.intro k11 k12))))))))));have HBO:=Lib.hid hbo;have HK4:=Lib.hid hk4;have HZQ:=Lib.hid hZq;have HB8:=Lib.hid hb8;clear hI hvr htu htn h7 hwr hZq han16 hb hbo hk4 hbx1 m1 m2 m3 m4 m5 m6 m7 m8 m9 m10 k1 k2 k4 k5 k6 k7 k8 k9 k10 k11 k12 ht hb8;generalize a.ws.length=aw at *;generalize a.n=an at *;generalize t.ws.length=tw at *;generalize t.n=tn at *;go_upto_region 9 with fail;generalize hW5:(wr.alloc (.cells #[.int .i64 tn,.slice ua tw uc] 56 (0,0))).alloc (.cells #[.int .i64 0,.slice none 0 0] 56 (0,0))=W5 at *;have hbB:=(hu5.block B (heap_lt k3) (by simp)).trans k3;clear hW5 x0 x1;generalize hg2:wr.heap.size+1=B15 at *;generalize hg1:wr.heap.size=B14 at *;have y0:=cell_at (j:=0) hbB rfl;have y1:=cell_at (j:=1) hbB rfl;have v0:=cell_at (j:=0) hbx1' rfl;have v1:=cell_at (j:=1) hbx1' rfl;have HU5:=Lib.hid hu5;have HBX:=Lib.hid (And.intro hbB (And.intro hbx2 (And.intro hg1 hg2)));clear hu5 hbB hbx1' hbx2 k3 hg1 hg2;go_wp2_with fail;refine (HRB.out _ HU5.out).mono ?_;rintro e w6 hE;obtain ⟨cb,rfl,hT,hu⟩:=hE.ex;obtain ⟨ba,bc,rfl,_⟩:=row_nil_len hT.row;obtain ⟨k1,k2,k3,k5,k6,k7,k8,k9,k10,k11,k12⟩:=HX.out;have hwr6:Upd [] wr w6:=HU5.out.trans hu
   have hti6:TIn w6 (Z++q.all m) (.slice ba b.ws.length bc) b:=hT.tin fun k hk=>Nat.lt_of_lt_of_le (by have h1:=HZQ.out k hk;have h2:=HBX.out.2.2.1;omega:k<wr.heap.size) HU5.out.size
   have HAA:=Lib.hid (HA2.out _ w6 hwr6 hti6);have hat6:TIn w6 (Z++q.all m) (.slice ca aw cc) a:=k2.keep0 hwr6;have g1:=(hu.block B (heap_lt HBX.out.1) (by simp)).trans HBX.out.1;have g2:=(hu.block B15 (heap_lt HBX.out.2.1) (by simp)).trans HBX.out.2.1;have H6:=Lib.hid (And.intro hwr6 (And.intro hti6 (And.intro hat6 (And.intro g1 g2))));obtain ⟨E,hE'⟩ : ∃ E,M1.ansE b=E:=⟨_,rfl⟩;have HEE:=Lib.hid hE';obtain ⟨bw,hbw⟩ : ∃ bw,b.ws.length=bw:=⟨_,rfl⟩;have hbn:=HBO.out.2
   have HTB:Hid (tabV b (.slice ba bw bc)=.agg #[.int .i64 an,.slice ba bw bc]):=by show _=_;unfold tabV;rw [hbn]
   rw [hbw] at HAA H6 ⊢;rw [HTB.out] at HAA;rw [HTB.out];clear hE hT hu k1 k2 k3 k5 k6 k7 k8 k9 k10 k11 k12 hwr6 hti6 hat6 g1 g2 hE' hbw hbn y0 y1 v0 v1;go_wp2_with fail;refine HAA.out.mono ?_;rintro e w7 hQ;obtain rfl:=hQ.en;rw [HEE.out,HTB.out];obtain ⟨q2,s1,s2,s3⟩:=hQ.md.ex;obtain ⟨k1,k2,k3,k5,k6,k7,k8,k9,k10,k11,k12⟩:=HX.out;obtain ⟨z1,z2,z3,z4,z5⟩:=H6.out;have s1':=s1.less;have nB:B∉q.all m:=(k1.keep0 z1).not_ty z4 (by decide) (by decide) (by decide);have nB15:B15∉q.all m:=(k1.keep0 z1).not_ty z5 (by decide) (by decide) (by decide);have e1:=(s2.block B (heap_lt z4) nB).trans z4;have e2:=(s2.block B15 (heap_lt z5) nB15).trans z5;have hat7:=z3.step s2 s3;have hti7:=z2.step s2 s3;have y0:=cell_at (j:=0) e1 rfl;have y1:=cell_at (j:=1) e1 rfl;have o0:=cell_at (j:=0) e2 rfl;have o1:=cell_at (j:=1) e2 rfl;have fo0:=frozen_at 0 e2;have fo1:=frozen_at 1 e2
   have hne:B15≠B:=by
    have h1:=HBX.out.2.2.1;have h2:=HBX.out.2.2.2;have h3:=heap_lt k3;omega
   have hne2:B≠B15:=fun e=>hne e.symm
   have hu7:Upd (p.all m) W0 w7:=(k5.trans (z1.mono (by simp))).then s2 k6
   have hs7:Sub (p.all m) W0 (q2.all m):=k6.step s3 (k5.trans (z1.mono (by simp)):Upd (p.all m) W0 w6).size
   have hB15:W0.heap.size<=B15:=by
    have h1:=HBX.out.2.2.1;have h2:=HBX.out.2.2.2;have h3:=k5.size;omega
   have H7:=Lib.hid (And.intro s1' (And.intro hat7 (And.intro hti7 (And.intro e1 (And.intro e2 (And.intro hu7 (And.intro hs7 hB15)))))));have hcn:=k8.ans b;have hsm:=M1.ans_same b;have HC:=Lib.hid (And.intro hcn hsm);clear hQ s1 s2 s3 k1 k2 k3 k5 k6 k7 k8 k9 k10 k11 k12 z1 z2 z3 z4 z5 s1' nB nB15 e1 e2 hat7 hti7 hu7 hs7 hB15 hcn hsm
   have HLT:Hid (∀ k,k∈Z++q2.all m->k<w7.heap.size):=fun k hk=>by
    obtain ⟨s1',hat7,hti7,e1,e2,hu7,hs7,hB15⟩:=H7.out
    rcases List.mem_append.1 hk with h | h
    ·have h1:=HZQ.out k (List.mem_append.2 (.inl h))
     have h2:=HBX.out.2.2.1;have h3:=heap_lt e2;have h4:=HBX.out.2.2.2;omega
    ·exact s1'.lt k h
   have hlen2:(M1.ans b).held.length<=4194304:=by
    have h1:=HC.out.2.2.2.2;have h2:=HX.out.2.2.2.2.2.2.2.2.2.2;have h3:=HM.out.2.2.2.2.2.2.2.2.2;have h4:M1.held.length<=M.held.length+i:=h2;omega
   have HRC:Hid (∀ z,Upd [B15] w7 z->Calls Tryz.prog 227 #[.pointer (some ⟨m,0,none⟩),.agg #[.int .i64 an,.slice ca aw cc]] z fun e w'=>e=.returned (.int .i64 ((M1.ans b).relE a))/\ModE m q2 (Z++q2.all m) ((M1.ans b).rel a) z w'):=fun z u=>by
    obtain ⟨s1',hat7,hti7,e1,e2,hu7,hs7,hB15⟩:=H7.out;exact HRL.out (M1.ans b) q2 z (s1'.box e2 u) (fun k hk=>Nat.lt_of_lt_of_le (HLT.out k hk) u.size) (hat7.box e2 u) HC.out.1 hlen2
   clear hlen2
   by_cases he:E=0
   ·subst he
    rw [if_pos rfl];go_wp2_with fail;have hu8:Upd [B15] w7 ((w7.setCell ⟨B15,0,none⟩ (.int .i64 an)).setCell ⟨B15,1,none⟩ (.slice ba bw bc)):=((Upd.refl _ _).setCell (.inl (by simp)) _).setCell (.inl (by simp)) _
    have hb15:((w7.setCell ⟨B15,0,none⟩ (.int .i64 an)).setCell ⟨B15,1,none⟩ (.slice ba bw bc)).heap[B15]?=some (.cells #[.int .i64 an,.slice ba bw bc] 56 (0,0)):=by
     rw [heap_set_eq (heap_set_eq H7.out.2.2.2.2.1 _) _];rfl
    have hbB:=(hu8.block B (heap_lt H7.out.2.2.2.1) (by simpa using hne2)).trans H7.out.2.2.2.1;refine (HRC.out _ hu8).mono ?_;generalize (w7.setCell ⟨B15,0,none⟩ (.int .i64 an)).setCell ⟨B15,1,none⟩ (.slice ba bw bc)=w8 at *;rintro e w9 ⟨rfl,hmd⟩;obtain ⟨q3,t1,t2,t3⟩:=hmd.ex;have hm8:=H7.out.1.box H7.out.2.2.2.2.1 hu8;have nB:=hm8.not_ty hbB (by decide) (by decide) (by decide);have nB15:=hm8.not_ty hb15 (by decide) (by decide) (by decide);have e1:=(t2.block B (heap_lt hbB) nB).trans hbB;have e2:=(t2.block B15 (heap_lt hb15) nB15).trans hb15;have p0:=cell_at (j:=0) e1 rfl;have p1:=cell_at (j:=1) e1 rfl;have r0:=cell_at (j:=0) e2 rfl;have r1:=cell_at (j:=1) e2 rfl;have fp0:=frozen_at 0 e1;have fp1:=frozen_at 1 e1
    have HNX:Hid (RfdI W0 m B op p Z { M with trail:=[] } a0 tabs (i+1) ((w9.setCell ⟨B,0,none⟩ (.int .i64 an)).setCell ⟨B,1,none⟩ (.slice ba bw bc))):=by
     obtain ⟨s1',hat7,hti7,_,f2,hu7,hs7,hB15⟩:=H7.out;obtain ⟨k1,k2,k3,k5,k6,k7,k8,k9,k10,k11,k12⟩:=HX.out;have hu10:Upd [B] w9 ((w9.setCell ⟨B,0,none⟩ (.int .i64 an)).setCell ⟨B,1,none⟩ (.slice ba bw bc)):=((Upd.refl _ _).setCell (.inl (by simp)) _).setCell (.inl (by simp)) _;have hsm:=HC.out.2;have hrs:=(M1.ans b).rel_same a;have k12':M1.held.length<=M.held.length+i:=k12;have h3:=HM.out.2.2.2.2.2.2.2.2.2;have hbn:b.n=an:=HBO.out.2;have hwB:W0.heap.size<=B:=HBW.out.1;refine ⟨(M1.ans b).rel a,b,.slice ba bw bc,q3,t1.less.box e1 hu10,((hti7.box f2 hu8).step t2 t3).box e1 hu10,by rw [heap_set_eq (heap_set_eq e1 _) _,hbn];rfl,?_,?_,?_,?_,HC.out.1.rel a,(k9.ans (by omega) HBO.out.1 (hbn.trans (k10.trans k11.symm))).rel a,hbn.trans k10,hrs.1.trans (hsm.1.trans k11),?_⟩
     ·rw [HK4.out,HEE.out,if_pos rfl]
     ·exact ((hu7.then (hu8) fun k hk=>.inr (by simp at hk;omega)).then t2 hs7).then hu10 fun k hk=>.inr (by simp at hk;omega)
     ·exact hs7.step t3 (hu7.then (hu8) fun k hk=>.inr (by simp at hk;omega):Upd (p.all m) W0 w8).size
     ·rw [hrs.2.2.2.1];exact MV.ans_trail k7 b
     ·have:=hrs.2.2.2.2;have:=hsm.2.2.2;show _<=M.held.length+(i+1);omega
    clear hmd t1 t2 t3 hm8 nB nB15 e1 e2 hu8 hb15 hbB y0 y1 o0 o1 fo0 fo1;go_wp2_with fail
    go_roundg (tabs.length-(i+1))
    case measure=>omega
    case rel=>exact ⟨i+1,rfl,by omega,rfl,by simp,HNX.out⟩
   ·rw [if_neg he]
    have he2:(E == 0)=false:=by simpa using he
    have HNE:=Lib.hid he;go_wp2_with fail;have hu8:Upd [B15] w7 ((w7.setCell ⟨B15,0,none⟩ (.int .i64 0)).setCell ⟨B15,1,none⟩ (.slice none 0 0)):=((Upd.refl _ _).setCell (.inl (by simp)) _).setCell (.inl (by simp)) _;refine (HRC.out _ hu8).mono ?_;generalize (w7.setCell ⟨B15,0,none⟩ (.int .i64 0)).setCell ⟨B15,1,none⟩ (.slice none 0 0)=w8 at *;rintro e w9 ⟨rfl,hmd⟩;obtain ⟨q3,t1,t2,t3⟩:=hmd.ex;have hm8:=H7.out.1.box H7.out.2.2.2.2.1 hu8;have hb15:=H7.out.2.2.2.2.1
    have hu9:Upd (p.all m) W0 w9:=(H7.out.2.2.2.2.2.1.then hu8 fun k hk=>.inr (by simp at hk;have:=H7.out.2.2.2.2.2.2.2;omega)).then t2 H7.out.2.2.2.2.2.2.1
    have hs9:Sub (p.all m) W0 (q3.all m):=H7.out.2.2.2.2.2.2.1.step t3 (H7.out.2.2.2.2.2.1.then hu8 fun k hk=>.inr (by simp at hk;have:=H7.out.2.2.2.2.2.2.2;omega):Upd (p.all m) W0 w8).size;have hb8:=(hu9.block B8 (heap_lt HB.out.2) (fun hk=>by have:=HP.out _ hk;have:=HBB.out.1;have:=HBB.out.2;omega)).trans HB.out.2;have ht1:=t1.less
    have hm8ne:B8≠m:=fun e=>by
     have e2:=ht1.blk;rw [<- e,hb8] at e2
     injection e2 with e2
     injection e2 with _ e2 _
     exact absurd e2 (by decide)
    have hm8ne2:m≠B8:=fun e=>hm8ne e.symm
    have x4:w9.cell? ⟨m,4,none⟩=some q3.tv:=ht1.cells.2.2.2.2;have f4:=frozen_at 4 ht1.blk;have z0:=cell_at (j:=0) hb8 rfl;have z1:=cell_at (j:=1) hb8 rfl;have fz0:=frozen_at 0 hb8;have fz1:=frozen_at 1 hb8
    have hfo:foldM op { M with trail:=[] } a0 tabs=⟨M1.rel a,a,E⟩:=by rw [HK4.out,HEE.out,if_neg HNE.out]
    have hMA:M1.ans b=M1:=by unfold MV.ans;rw [HEE.out,if_neg HNE.out]
    rw [hMA] at ht1;have H9:=Lib.hid (And.intro ht1 (And.intro hu9 (And.intro hs9 hb8)));have HFO:=Lib.hid hfo
    have HTR:Hid ((M1.rel a).trail=[]):=by show _=_;rw [(MV.rel_same _ _).2.2.2.1];exact HX.out.2.2.2.2.2.1
    have HR:Hid (∀ z:World,z.heap[B8]?=some (.cells #[.int .i64 0,.slice none 0 0] 56 (0,0))->((z.setCell ⟨B8,0,none⟩ (.int .i64 0)).setCell ⟨B8,1,none⟩ (.slice none 0 0)).heap[B8]?=some (.cells #[.int .i64 0,.slice none 0 0] 56 (0,0))):=fun z hz=>by
     rw [heap_set_eq (heap_set_eq hz _) _];rfl
    have H48:Hid ((w9.setCell ⟨m,4,none⟩ (.slice ta tl tc)).heap[B8]?=some (.cells #[.int .i64 0,.slice none 0 0] 56 (0,0))):=by
     show _=_;rw [heap_set_ne hm8ne];exact hb8
    have HFIN:Hid (∀ f,f=(((w9.setCell ⟨m,4,none⟩ (.slice ta tl tc)).setCell ⟨B8,0,none⟩ (.int .i64 0)).setCell ⟨B8,1,none⟩ (.slice none 0 0))->RfdQ m op M p Z a0 tabs w (.returned (.tuple #[.agg #[.int .i64 0,.slice none 0 0],.int .i64 E])) f):=fun f hf=>by
     obtain ⟨ht1,hu9,hs9,hb8⟩:=H9.out
     have hfm:f.heap[m]?=some (.cells (#[.int .i64 (M1.rel a).n,.int .i64 (M1.rel a).c,q3.ov,q3.hv,q3.tv].setIfInBounds 4 (.slice ta tl tc)) 90 (0,0)):=by
      rw [hf,heap_set_ne hm8ne2,heap_set_ne hm8ne2];exact heap_set_eq ht1.blk _
     have huf:Upd [m,B8] w9 f:=by
      rw [hf];exact (((Upd.refl _ _).setCell (.inl (by simp)) _).setCell (.inl (by simp)) _).setCell (.inl (by simp)) _
     refine ⟨fun h0=>absurd (by rw [hfo] at h0;exact h0) HNE.out,fun _=>?_⟩;rw [hfo];have hmp:m∈p.all m:=MPtr.mem.2 (.inl rfl)
     have hB8:w.heap.size<=B8:=by have:=HBB.out.1;have:=HBB.out.2;omega
     have huw:Upd (p.all m) w f:=((HU0.out.mono (by simp)).trans hu9).then huf fun k hk=>by
      simp at hk
      rcases hk with rfl | rfl
      ·exact .inl hmp
      ·exact .inr hB8
     refine ⟨rfl,⟨fun z u=>?_,_,_,hfm,rfl⟩,huw⟩;have hu4:Upd [m,B8] w9 (f.setCell ⟨m,4,none⟩ (.slice none 0 0)):=huf.setCell (p:=⟨m,4,none⟩) (.inl (by simp)) _;have hn4:=ht1.nil4 hb8 hu4 (by rw [heap_set_eq hfm];rfl);have etr:({ M1.rel a with trail:=[] }:MV)=M1.rel a:=MV.trail_nil HTR.out;rw [etr] at hn4;refine ⟨⟨q3.ov,q3.hv,.slice none 0 0⟩,(hn4.apart (fun k hk=>?_) fun k hk=>List.mem_append.2 (.inr hk)).keep0 u,?_,fun k hk=>?_⟩
     ·rcases List.mem_append.1 hk with h | h
      ·exact .inl (List.mem_append.2 (.inl h))
      ·rcases MPtr.mem.1 h with rfl | h1 | h1 | h1
       ·exact .inl (List.mem_append.2 (.inr (MPtr.mem.2 (.inl rfl))))
       ·exact .inl (List.mem_append.2 (.inr (MPtr.mem.2 (.inr (.inl h1)))))
       ·exact .inl (List.mem_append.2 (.inr (MPtr.mem.2 (.inr (.inr (.inl h1))))))
       ·simp [Value.ownBlock] at h1
     ·exact (huw.setCell (p:=⟨m,4,none⟩) (.inl hmp) _).trans (u.mono (by simp))
     ·have hk2:k∈q3.all m:=by
       rcases MPtr.mem.1 hk with rfl | h1 | h1 | h1
       ·exact MPtr.mem.2 (.inl rfl)
       ·exact MPtr.mem.2 (.inr (.inl h1))
       ·exact MPtr.mem.2 (.inr (.inr (.inl h1)))
       ·simp [Value.ownBlock] at h1
      rcases hs9 k hk2 with h | h
      ·exact .inl h
      ·right;have:=HU0.out.size;omega
    clear hmd t1 t2 t3 hm8 hb15 hu9 hs9 hb8 ht1 hu8 he hfo hMA y0 y1 o0 o1 fo0 fo1;go_wp2_with fail;refine bodyPost_ret (ret_rep rfl _ _ B8 #[.int .i64 0,.slice none 0 0] (.int .i64 E) _ rfl rfl (HR.out _ H48.out) Tryz.underlying56 rfl Tryz.infoTabS) rfl (HFIN.out _ rfl)
  ·obtain rfl:i=tabs.length:=by omega
   have hil:¬ ((tabs.length:Int)<(tabs.length:Int)):=by omega
   have hfo:foldM op { M with trail:=[] } a0 tabs=⟨M1,a,0⟩:=by rw [k4,List.drop_length];rfl
   have b0:=cell_at (j:=0) k3 rfl;have b1:=cell_at (j:=1) k3 rfl;have z0:=cell_at (j:=0) hb8 rfl;have z1:=cell_at (j:=1) hb8 rfl;have f0:=frozen_at 0 hb8;have f1:=frozen_at 1 hb8;have hTV2:tabV a (.slice ca a.ws.length cc)=.agg #[.int .i64 a.n,.slice ca a.ws.length cc]:=rfl
   have hnB:B8≠B:=by have:=heap_lt HB.out.2;have:=HBW.out.1;omega
   have HFIN:Hid (∀ z,Upd [B8] wr z->RfdQ m op M p Z a0 tabs w (.returned (.tuple #[.agg #[.int .i64 a.n,.slice ca a.ws.length cc],.int .i64 0])) z):=fun z u=>by
    refine ⟨fun _=>?_,fun hne=>absurd (by rw [hfo]) hne⟩;rw [hfo];refine ⟨.slice ca a.ws.length cc,q,by rw [<- hTV2],k1.box hb8 u,k2.box hb8 u,((HU0.out.mono (by simp)).trans k5).then u fun k hk=>.inr (by simp at hk;have:=HBB.out.1;have:=HBB.out.2;omega),fun k hk=>?_⟩
    rcases k6 k hk with h | h
    ·exact .inl h
    ·right;have:=HU0.out.size;omega
   have HR:Hid (∀ z:World,z.heap[B8]?=some (.cells #[.int .i64 0,.slice none 0 0] 56 (0,0))->((z.setCell ⟨B8,0,none⟩ (.int .i64 a.n)).setCell ⟨B8,1,none⟩ (.slice ca a.ws.length cc)).heap[B8]?=some (.cells #[.int .i64 a.n,.slice ca a.ws.length cc] 56 (0,0))):=fun z hz=>by
    rw [heap_set_eq (heap_set_eq hz _) _];rfl
   have H8:=Lib.hid hb8;generalize a.n=an at *;generalize a.ws.length=aw at *;clear hI k1 k2 k3 k4 k5 k6 k7 k8 k9 k10 k11 k12 hb8 hfo hTV2;go_wp2_with fail;refine bodyPost_ret (ret_rep rfl _ _ B8 #[.int .i64 an,.slice ca aw cc] (.int .i64 0) _ rfl rfl (HR.out _ H8.out) Tryz.underlying56 rfl Tryz.infoTabS) rfl (HFIN.out _ (((Upd.refl _ _).setCell (.inl (by simp)) _).setCell (.inl (by simp)) _))
theorem KM.ansC {K:KV} {M:MV} (h:KM K M) (hk:K.Ok) (hu:K.Uni) (s:Bool):M.ansE (constT M.n s)=0/\(constT M.n s).isC=true:=by
 have hn:=h.n16;have hnv:=h.agr.same.n;have hc:(constT M.n s).isC=true:=TV.isC_iff.2 ⟨s,rfl⟩;have ho:(constT M.n s).Ok:=mkT_ok _ (by rw [hnv];exact hn);have hr:=const_names hk s (n:=M.n);have hh:=h.agr.holdsC hk hu ho hnv hc
 have hf:=h.agr.fits_yes hk hk hu hn ho hnv ⟨fun _ _ h _=>h,rfl,rfl,rfl,rfl⟩ hr fun x=>by
  rw [if_neg]
  ·rfl
  ·rintro ⟨rfl,h2⟩;cases s <;> simp at h2
 exact ⟨by unfold MV.ansE;rw [if_neg (by omega),if_pos hf],hc⟩
theorem KM.cnt {K:KV} {M:MV} (h:KM K M) (hk:K.Ok):M.Cnt :=
 ⟨h.agr.nd,fun u hu=>by obtain ⟨_,_,r,_,_,h1,h2,_⟩:=h.agr.hl u.1 u.2 hu;have:=hk.wf.hm r;omega⟩
theorem Upd.setBoth {B m:Nat} {w w':World} {v:Value} (u:Upd [B] w w') (hne:B≠m):Upd [B] (w.setCell ⟨m,4,none⟩ v) (w'.setCell ⟨m,4,none⟩ v):=by
 refine ⟨u.os,u.tape,u.output,by simpa [World.setCell] using u.size,fun k hk hn=>?_⟩
 have hk':k<w.heap.size:=by simpa [World.setCell] using hk
 have hb:=u.block k hk' hn
 by_cases e:k=m
 ·subst e
  simp only [World.setCell]
  rw [Array.getElem?_modify,Array.getElem?_modify,hb]
 ·rw [heap_set_ne e,heap_set_ne e];exact hb
theorem ModE.box {m:Nat} {p:MPtr} {Z:List Nat} {M:MV} {w w1 w2:World} {B:Nat} {C:Array Value} {fr:Nat × Nat} (h:ModE m p Z M w w1) (hb:w1.heap[B]?=some (.cells C 56 fr)) (u:Upd [B] w1 w2) (hB:w.heap.size<=B):ModE m p Z M w w2:=by
 obtain ⟨q,h1,h2,h3⟩:=h.ex;exact ⟨q,h1.box hb u,h2.then u fun k hk=>.inr (by simp at hk;omega),h3⟩
theorem rdall_spec (m n1:Nat) (M:MV) (p:MPtr) (Z:List Nat) (lv:Value) (tabs:List TV) (w:World) (h:ModIn w m M p Z) (hZ:∀ k,k∈Z->k<w.heap.size) (hf:M.Fit) (hc:M.Cnt) (hE0:M.ansE (constT M.n true)=0) (hic:(constT M.n true).isC=true)
  (hv:TLs w n1 Z lv tabs) (hlen:tabs.length<=1000) (hlive:∀ t,t∈tabs->M.isLive t=true) (htn:∀ t,t∈tabs->t.n=M.n) (hhl:M.held.length+1001<=65536) :
  Calls Tryz.prog 123 #[.pointer (some ⟨m,0,none⟩),lv] w fun e w'=>RfdQ m 8 M p Z (constT M.n true) tabs w e w':=by
 obtain ⟨la,lc,rfl,_⟩:=hv.form
 have hn16:M.n<=16:=by have:=hf.n6;omega
 have HF:Hid (∀ (c0:Value) z,Upd [] w z->TIn z Z c0 (constT M.n true)->Calls Tryz.prog 194 #[.pointer (some ⟨m,0,none⟩),.int .u8 8,tabV (constT M.n true) c0,.slice la tabs.length lc] z fun e w'=>RfdQ m 8 M p Z (constT M.n true) tabs z e w'):=fun c0 z u h0 =>
  rfold_spec m 8 n1 M p Z c0 _ _ tabs z (h.keep0 u) (fun k hk=>Nat.lt_of_lt_of_le (hZ k hk) u.size) hf hc h0 rfl hE0 hic (hv.keep0 u) hlen hlive htn (by omega) hhl
 have c0:=h.cells.1;have HB:=Lib.hid (heap_alloc_new w (.cells #[.int .i64 0,.slice none 0 0] 56 (0,0)));have HU0:=Lib.hid ((Upd.refl [] w).alloc (.cells #[.int .i64 0,.slice none 0 0] 56 (0,0)));have d0:=HU0.out.cell0 c0
 have HP:Hid (∀ k,k∈p.all m->k<w.heap.size):=fun k hk=>hZ k (h.sz k hk)
 have HZ:=Lib.hid hZ;have HMP:Hid (m∈p.all m):=MPtr.mem.2 (.inl rfl);clear h hZ hf hc hE0 hic hv hlen hlive htn hhl c0
 go_enter Tryz.func123,Tryz.ntmps123
 go_wp2_with fail;refine (tconst_spec M.n true _ hn16).mono ?_;rintro e w2 hE;obtain ⟨cc,rfl,hT,hu⟩:=hE.ex;obtain ⟨ca,cd,rfl,_⟩:=row_nil_len hT.row;have HU2:=Lib.hid (HU0.out.trans hu);have HUB:=Lib.hid hu;have HFC:=Lib.hid (HF.out _ w2 HU2.out (hT.tin fun k hk=>Nat.lt_of_lt_of_le (HZ.out k hk) HU0.out.size));have htv:tabV (constT M.n true) (.slice ca (constT M.n true).ws.length cd)=.agg #[.int .i64 M.n,.slice ca (constT M.n true).ws.length cd]:=rfl;rw [htv] at HFC ⊢;clear hE hT hu htv d0;generalize (constT M.n true).ws.length=cw at *;go_wp2_with fail;refine HFC.out.mono ?_;rintro e w3 hQ;have hb2:=(HUB.out.block w.heap.size (heap_lt HB.out) (by simp)).trans HB.out
 have hnB:w.heap.size∉p.all m:=fun hk=>Nat.lt_irrefl _ (HP.out _ hk)
 obtain ⟨R,hR⟩ : ∃ R,foldM 8 { M with trail:=[] } (constT M.n true) tabs=R:=⟨_,rfl⟩;have HRR:=Lib.hid hR;have hyes:=hQ.yes;have hno:=hQ.no;rw [hR] at hyes hno
 by_cases he:R.e=0
 ·obtain ⟨c,q,rfl,q1,q2,q3,q4⟩:=hyes he
  obtain ⟨xa,xc,rfl,_⟩:=row_nil_len q2.row;have hb3:=(q3.block w.heap.size (heap_lt hb2) hnB).trans hb2;have z0:=cell_at (j:=0) hb3 rfl;have z1:=cell_at (j:=1) hb3 rfl;have f0:=frozen_at 0 hb3;have f1:=frozen_at 1 hb3;have htv:tabV R.a (.slice xa R.a.ws.length xc)=.agg #[.int .i64 R.a.n,.slice xa R.a.ws.length xc]:=rfl
  have HFIN:Hid (∀ z,Upd [w.heap.size] w3 z->RfdQ m 8 M p Z (constT M.n true) tabs w (.returned (.tuple #[.agg #[.int .i64 R.a.n,.slice xa R.a.ws.length xc],.int .i64 0])) z):=fun z u=>by
   refine ⟨fun _=>?_,fun hne=>absurd (by rw [HRR.out];exact he) hne⟩;rw [HRR.out];refine ⟨_,q,by rw [htv],q1.box hb3 u,q2.box hb3 u,((HU2.out.mono (by simp)).trans q3).then u fun k hk=>.inr (by simp at hk;omega),fun k hk=>?_⟩
   rcases q4 k hk with h | h
   ·exact .inl h
   ·right;have:=HU2.out.size;omega
  have HR3:Hid (∀ z:World,z.heap[w.heap.size]?=some (.cells #[.int .i64 0,.slice none 0 0] 56 (0,0))->((z.setCell ⟨w.heap.size,0,none⟩ (.int .i64 R.a.n)).setCell ⟨w.heap.size,1,none⟩ (.slice xa R.a.ws.length xc)).heap[w.heap.size]?=some (.cells #[.int .i64 R.a.n,.slice xa R.a.ws.length xc] 56 (0,0))):=fun z hz=>by
   rw [heap_set_eq (heap_set_eq hz _) _];rfl
  have H3:=Lib.hid hb3;rw [htv];generalize R.a.ws.length=rw' at *;generalize R.a.n=rn at *;clear hQ hyes hno he q1 q2 q3 q4 hb2 hb3 hnB hR htv;generalize hB4:w.heap.size=B4 at *;go_wp2_with fail;refine bodyPost_ret (ret_rep rfl _ _ B4 #[.int .i64 rn,.slice xa rw' xc] (.int .i64 0) _ rfl rfl (HR3.out _ H3.out) Tryz.underlying56 rfl Tryz.infoTabS) rfl (HFIN.out _ (((Upd.refl _ _).setCell (.inl (by simp)) _).setCell (.inl (by simp)) _))
 ·obtain ⟨rfl,hn,hup⟩:=hno he
  have hb3:=(hup.block w.heap.size (heap_lt hb2) hnB).trans hb2;have z0:=cell_at (j:=0) hb3 rfl;have z1:=cell_at (j:=1) hb3 rfl;have f0:=frozen_at 0 hb3;have f1:=frozen_at 1 hb3
  have HFIN:Hid (∀ z,Upd [w.heap.size] w3 z->RfdQ m 8 M p Z (constT M.n true) tabs w (.returned (.tuple #[.agg #[.int .i64 0,.slice none 0 0],.int .i64 R.e])) z):=fun z u=>by
   have hmw:w.heap.size≠m:=fun e=>hnB (by rw [e];exact HMP.out)
   refine ⟨fun h0=>absurd (by rw [HRR.out] at h0;exact h0) he,fun _=>?_⟩;rw [HRR.out];refine ⟨rfl,⟨fun y uy=>?_,?_⟩,((HU2.out.mono (by simp)).trans hup).then u fun k hk=>.inr (by simp at hk;omega)⟩
   ·have h1:=ModE.pre HU2.out (hn.md _ (Upd.refl _ _))
    have h2:=h1.box (w2:=z.setCell ⟨m,4,none⟩ (.slice none 0 0)) (by rw [heap_set_ne hmw];exact hb3) (u.setBoth hmw) (Nat.le_refl _);exact h2.keep uy
   ·obtain ⟨v,cs,h1,h2⟩:=hn.tv
    exact ⟨v,cs,(u.block m (heap_lt h1) (by simp;exact fun e=>hmw e.symm)).trans h1,h2⟩
  have HR3:Hid (∀ z:World,z.heap[w.heap.size]?=some (.cells #[.int .i64 0,.slice none 0 0] 56 (0,0))->((z.setCell ⟨w.heap.size,0,none⟩ (.int .i64 0)).setCell ⟨w.heap.size,1,none⟩ (.slice none 0 0)).heap[w.heap.size]?=some (.cells #[.int .i64 0,.slice none 0 0] 56 (0,0))):=fun z hz=>by
   rw [heap_set_eq (heap_set_eq hz _) _];rfl
  have H3:=Lib.hid hb3;generalize R.e=re at *;clear hQ hyes hno he hn hup hb2 hb3 hnB hR;generalize hB4:w.heap.size=B4 at *;go_wp2_with fail;refine bodyPost_ret (ret_rep rfl _ _ B4 #[.int .i64 0,.slice none 0 0] (.int .i64 re) _ rfl rfl (HR3.out _ H3.out) Tryz.underlying56 rfl Tryz.infoTabS) rfl (HFIN.out _ (((Upd.refl _ _).setCell (.inl (by simp)) _).setCell (.inl (by simp)) _))
end Go.Proofs.YtpfafhmkbcahhaaGreat
