import Derived.Test.YtfkopmhpppeheaaGreatPF14
set_option maxRecDepth 100000
set_option maxHeartbeats 3200000
namespace Go.Proofs.YtfkopmhpppeheaaGreat
open Go.RowKit Go.Maps Go.ChangeMaps Go.WideShapes
theorem Tryz.infoTable:(Tryz.prog.info? 122).map (fun i=>(i.zero,i.size,i.bytes))=some (some (.agg #[.int .i64 0,.slice none 0 0]),2,32):=by kernel_rfl
def flatTT (L:List TV) (cs:List Value):List Value:=(L.zip cs).flatMap fun p=>[Value.int .i64 p.1.n,p.2]
structure TLs (w:World) (n0:Nat) (Z:List Nat) (v:Value) (L:List TV):Prop where
 ex:∃ cs:List Value,cs.length=L.length/\w.ownsRow n0 122 2 v L.length (flatTT L cs)/\∀ (i:Nat) (t:TV) (c:Value),L[i]?=some t->cs[i]?=some c->TIn w Z c t
 fr:∀ k,v.ownBlock=some k->k∉Z
theorem TLs.row {w:World} {n0:Nat} {Z:List Nat} {v:Value} {L:List TV} (h:TLs w n0 Z v L):∃ xs,w.ownsRow n0 122 2 v L.length xs:=by
 obtain ⟨cs,_,hr,_⟩:=h.ex;exact ⟨_,hr⟩
theorem TLs.keep {w w':World} {n0:Nat} {Z S:List Nat} {v:Value} {L:List TV} (h:TLs w n0 Z v L) (u:Upd S w w') (hS:∀ k,k∈S->k∈Z\/w.heap.size<=k):TLs w' n0 Z v L:=by
 obtain ⟨cs,h1,h2,h3⟩:=h.ex;refine ⟨⟨cs,h1,row_keep h2 fun k hk=>u.block k (h2.lt k hk).2 fun hm=>?_,fun i t c ht hc=>(h3 i t c ht hc).keep u hS⟩,h.fr⟩
 rcases hS k hm with h4 | h4
 ·exact h.fr k hk h4
 ·have:=(h2.lt k hk).2;omega
theorem TLs.keep0 {w w':World} {n0:Nat} {Z:List Nat} {v:Value} {L:List TV} (h:TLs w n0 Z v L) (u:Upd [] w w'):TLs w' n0 Z v L:=h.keep u (by simp)
theorem TLs.apart {w:World} {n0:Nat} {Z Z':List Nat} {v:Value} {L:List TV} (h:TLs w n0 Z v L) (hs:Sub Z w Z'):TLs w n0 Z' v L:=by
 obtain ⟨cs,h1,h2,h3⟩:=h.ex
 exact ⟨⟨cs,h1,h2,fun i t c ht hc=>(h3 i t c ht hc).apart hs⟩,fun k hk hm=>by
  rcases hs k hm with h4 | h4
  ·exact h.fr k hk h4
  ·have:=(h2.lt k hk).2;omega⟩
theorem TLs.base {w:World} {n0 n1:Nat} {Z:List Nat} {v:Value} {L:List TV} (h:TLs w n0 Z v L) (hn:n1<=n0):TLs w n1 Z v L:=by
 obtain ⟨cs,h1,h2,h3⟩:=h.ex;exact ⟨⟨cs,h1,row_base h2 hn,h3⟩,h.fr⟩
theorem TLs.nil (w:World) (n0:Nat) (Z:List Nat):TLs w n0 Z (.slice none 0 0) []:=⟨⟨[],rfl,World.ownsRow_nil _ _ _ _,fun i t c h=>by simp at h⟩,fun k hk=>by simp [Value.ownBlock] at hk⟩
theorem flatTT_get {L:List TV} {cs:List Value} (hl:cs.length=L.length) {i:Nat} {t:TV} {c:Value} (ht:L[i]?=some t) (hc:cs[i]?=some c):(flatTT L cs)[i*2]?=some (.int .i64 t.n)/\(flatTT L cs)[i*2+1]?=some c:=by
 induction L generalizing cs i with
 | nil=>simp at ht
 | cons a L ih =>
  cases cs with
  | nil=>simp at hl
  | cons d cs =>
   have hl':cs.length=L.length:=by simpa using hl
   have e:flatTT (a::L) (d::cs)=Value.int .i64 a.n::d::flatTT L cs:=rfl
   cases i with
   | zero=>simp at ht hc;subst ht hc;rw [e];exact ⟨rfl,rfl⟩
   | succ i =>
    simp at ht hc
    obtain ⟨h1,h2⟩:=ih hl' ht hc;rw [e]
    have e1:(i+1)*2=i*2+1+1:=by omega
    have e2:(i+1)*2+1=i*2+1+1+1:=by omega
    rw [e1,List.getElem?_cons_succ,List.getElem?_cons_succ,List.getElem?_cons_succ,List.getElem?_cons_succ];exact ⟨h1,h2⟩
theorem flatTT_snoc {L:List TV} {cs:List Value} (hl:cs.length=L.length) (t:TV) (c:Value):flatTT (L++[t]) (cs++[c])=flatTT L cs++[Value.int .i64 t.n,c]:=by
 unfold flatTT
 rw [List.zip_append hl.symm,List.flatMap_append];rfl
theorem TLs.at_ {w:World} {n0 n' cp g:Nat} {Z:List Nat} {L:List TV} (h:TLs w n0 Z (.slice (some ⟨g,0,none⟩) n' cp) L) {i:Nat} {t:TV} (ht:L[i]?=some t) :
  ∃ c,w.cell? ⟨g,i*2,none⟩=some (.int .i64 t.n)/\w.cell? ⟨g,i*2+1,none⟩=some c/\TIn w Z c t:=by
 obtain ⟨cs,h1,h2,h3⟩:=h.ex
 have hil:i<L.length:=by
  by_cases e:i<L.length
  ·exact e
  ·rw [List.getElem?_eq_none (by omega)] at ht;cases ht
 have hc:cs[i]?=some (cs[i]'(by omega)):=List.getElem?_eq_getElem (by omega);obtain ⟨e1,e2⟩:=flatTT_get h1 ht hc;exact ⟨_,row_cell h2 e1,row_cell h2 e2,h3 i t _ ht hc⟩
theorem TLs.form {w:World} {n0:Nat} {Z:List Nat} {v:Value} {L:List TV} (h:TLs w n0 Z v L):∃ (a:Option Addr) (c:Nat),v=.slice a L.length c/\(0<L.length->∃ g,a=some ⟨g,0,none⟩):=by
 obtain ⟨xs,hr⟩:=h.row;obtain ⟨a,c,hv,hh⟩:=row_nil_len hr;refine ⟨a,c,hv,fun hp=>?_⟩
 rcases hh with ⟨_,h0,_⟩ | hh
 ·omega
 ·exact hh
theorem in_spec (n0:Nat) (Z:List Nat) (v:Value) (L:List TV) (c:Value) (t:TV) (w:World) (h:TLs w n0 Z v L) (ht:TIn w Z c t) (hl:L.length<=1099511627776) :
  Calls Tryz.prog 106 #[v,tabV t c] w fun e w'=>e=.returned (.bool (decide (t∈L)))/\Upd [] w w':=by
 obtain ⟨fa,fc,rfl,hfa⟩:=h.form;obtain ⟨ta,tc,hca,_⟩:=row_nil_len ht.row;subst hca;have HL:=Lib.hid h;have HT:=Lib.hid ht;unfold tabV;generalize hW:t.ws.length=W at *;generalize hn:t.n=n at *;have hbx:=boxT w (.int .i64 n) (.slice ta W tc);have HN:=Lib.hid (And.intro hW hn);have HU0:=Lib.hid ((Upd.refl [] w).alloc (.cells #[.int .i64 n,.slice ta W tc] 122 (0,0)));obtain ⟨b0,b1⟩:=hbx;clear h ht hW hn
 go_enter Tryz.func106,Tryz.ntmps106
 go_wp2_with fail
 go_loopg [9] L.length (fun g s9 wr=>∃ i:Nat,L.length-i=g/\i<=L.length/\s9=.int .i64 i/\t∉L.take i/\Upd [] (w.alloc (.cells #[.int .i64 n,.slice ta W tc] 122 (0,0))) wr)
 case atStart=>exact ⟨0,by omega,by omega,rfl,by simp,Upd.refl _ _⟩
 case round =>
  obtain ⟨i,rfl,hi,rfl,hno,hU⟩:=hrel
  by_cases hlt:i<L.length
  ·obtain ⟨u,hu⟩ : ∃ u,L[i]?=some u:=⟨_,List.getElem?_eq_getElem hlt⟩
   obtain ⟨ga,rfl⟩:=hfa (by omega);have HUr:=Lib.hid (HU0.out.trans hU);obtain ⟨cu,x0,x1,htu⟩:=(HL.out.keep0 HUr.out).at_ hu;obtain ⟨ua,uc,hcu,_⟩:=row_nil_len htu.row;subst hcu;obtain ⟨y0,y1⟩:=boxT_keep (hU.alloc (.cells #[.int .i64 u.n,.slice ua u.ws.length uc] 122 (0,0))) ⟨b0,b1⟩;obtain ⟨z0,z1⟩:=boxT wr (.int .i64 u.n) (.slice ua u.ws.length uc)
   have hil:(i:Int)<(L.length:Int):=by omega
   have HSM:=Lib.hid (same_spec Z (.slice ta W tc) (.slice ua u.ws.length uc) t u (wr.alloc (.cells #[.int .i64 u.n,.slice ua u.ws.length uc] 122 (0,0))) ((HT.out.keep0 HUr.out).keep0 ((Upd.refl [] wr).alloc _)) (htu.keep0 ((Upd.refl [] wr).alloc _)));have HNO:=Lib.hid (And.intro hno hU);have HUU:=Lib.hid hu;unfold tabV at HSM;rw [HN.out.2] at HSM;generalize u.ws.length=UW at *;generalize u.n=un at *;clear htu hno hU hu b0 b1;go_wp2_with fail;refine HSM.out.mono ?_;rintro e w3 ⟨rfl,hu3⟩;have HU3:=Lib.hid ((HNO.out.2.alloc (.cells #[.int .i64 un,.slice ua UW uc] 122 (0,0))).trans hu3);clear hu3 HSM x0 x1 y0 y1 z0 z1
   by_cases e:t=u
   ·have HD:Hid (t∈L):=by rw [e];exact List.mem_of_getElem? HUU.out
    rw [decide_eq_true e];clear e;go_wp2_with fail;go_ret;exact ⟨by rw [decide_eq_true HD.out];rfl,HU0.out.trans HU3.out⟩
   ·have HD:Hid (t∉L.take (i+1)):=by
     show t∉_
     rw [List.take_add_one,HUU.out]
     simp only [Option.toList_some,List.mem_append,List.mem_singleton,not_or]
     exact ⟨HNO.out.1,e⟩
    rw [decide_eq_false e];clear e;go_wp2_with fail
    go_roundg (L.length-(i+1))
    case measure=>omega
    case rel=>exact ⟨i+1,rfl,by omega,by simp,HD.out,HU3.out⟩
  ·obtain rfl:i=L.length:=by omega
   have hil:¬ ((L.length:Int)<(L.length:Int)):=by omega
   have HD:Hid (decide (t∈L)=false/\Upd [] w wr):=⟨decide_eq_false (by rw [List.take_length] at hno;exact hno),HU0.out.trans hU⟩;clear hno hU;go_wp2_with fail;go_ret;exact ⟨by rw [HD.out.1];rfl,HD.out.2⟩
def addT (l:List TV) (t:TV):List TV:=if t∈l then l else l++[t]
def unlikeT (L:List TV):List TV:=L.foldl addT []
def nodesT (L:List TV) (v:Nat):List TV:=L.filter fun t=>depT t v
def givenT (L:List TV) (v:Nat):List TV:=L.foldl (fun l t=>addT (addT l (cofT t v false)) (cofT t v true)) []
theorem addT_len (l:List TV) (t:TV):(addT l t).length<=l.length+1:=by unfold addT;split <;> simp
theorem unlikeT_len (L:List TV):(unlikeT L).length<=L.length:=by
 have key:∀ (L l:List TV),(L.foldl addT l).length<=l.length+L.length:=by
  intro L
  induction L with
  | nil=>intro l;simp
  | cons a L ih=>intro l;have:=ih (addT l a);have:=addT_len l a;simp only [List.foldl_cons,List.length_cons];omega
 have:=key L [];unfold unlikeT
 simpa using this
theorem TLs.push {w w5:World} {n0 g5 cap:Nat} {Z:List Nat} {v c:Value} {L:List TV} {t:TV} {X:Obj} (h:TLs w n0 Z v L) (ht:TIn w Z c t) (_hn:n0<=w.heap.size) (hZ:∀ k,k∈Z->k<n0)
  (hgr:(w.alloc X).grownBy w5 v.ownBlock) {xs:List Value} (hrow:w.ownsRow n0 122 2 v L.length xs) (hown:w5.ownsRow n0 122 2 (.slice (some ⟨g5,0,none⟩) (L.length+1) cap) (L.length+1) (xs++[.int .i64 t.n,c])) :
  TLs w5 n0 Z (.slice (some ⟨g5,0,none⟩) (L.length+1) cap) (L++[t])/\(∀ S,(∀ k,v.ownBlock=some k->k∈S\/w.heap.size<=k)->Upd S w w5):=by
 obtain ⟨cs,h1,h2,h3⟩:=h.ex
 obtain rfl:xs=flatTT L cs:=by
  obtain ⟨e1,c1⟩:=hrow;obtain ⟨e2,c2⟩:=h2
  rcases c1 with ⟨rfl,h0⟩ | ⟨g,cap1,cur1,rfl,hg,hh,_,_,_,k1⟩
  ·rcases c2 with ⟨_,_⟩ | ⟨g,cap2,cur2,e,_⟩
   ·have a1:xs.length=0:=by rw [e1,h0]
    have a2:(flatTT L cs).length=0:=by rw [e2,h0]
    rw [List.length_eq_zero_iff.1 a1,List.length_eq_zero_iff.1 a2]
   ·simp at e
  ·rcases c2 with ⟨e,_⟩ | ⟨g',cap2,cur2,e,hg',hh',_,_,_,k2⟩
   ·simp at e
   ·simp at e
    obtain ⟨rfl,_⟩:=e
    rw [hh] at hh';cases hh'
    rw [<- k1,<- k2]
 have hu:∀ S,(∀ k,v.ownBlock=some k->k∈S\/w.heap.size<=k)->Upd S w w5:=fun S hS=>((Upd.refl S w).alloc X).grown hgr hS
 refine ⟨⟨⟨cs++[c],by simp [h1],?_,fun i u d hu' hd=>?_⟩,fun k hk hm=>?_⟩,hu⟩
 ·rw [flatTT_snoc h1,List.length_append,List.length_singleton];exact hown
 ·have hS:=hu (v.ownBlock.toList) (fun k hk=>.inl (by simp [hk]))
  have keep:∀ {u:TV} {d:Value},TIn w Z d u->TIn w5 Z d u:=fun {u d} hd=>⟨hd.ok,row_keep hd.row fun k hk=>hS.block k (hd.row.lt k hk).2 fun hm=>by
   simp at hm
   obtain ⟨_,(⟨e,_⟩ | ⟨g,cap1,cur1,e,hg,hh,_⟩)⟩:=h2
   ·rw [e] at hm;simp [Value.ownBlock] at hm
   ·rw [e] at hm
    simp [Value.ownBlock] at hm
    subst hm;obtain ⟨_,(⟨e2,_⟩ | ⟨g2,cap2,cur2,e2,hg2,hh2,_⟩)⟩:=hd.row
    ·rw [e2] at hk;simp [Value.ownBlock] at hk
    ·rw [e2] at hk
     simp [Value.ownBlock] at hk
     subst hk;rw [hh] at hh2
     injection hh2 with hh2
     injection hh2 with _ hh2 _
     exact absurd hh2 (by decide),hd.fr⟩
  by_cases hi:i<L.length
  ·rw [List.getElem?_append_left hi] at hu'
   rw [List.getElem?_append_left (by omega)] at hd;exact keep (h3 i u d hu' hd)
  ·rw [List.getElem?_append_right (by omega)] at hu'
   rw [List.getElem?_append_right (by omega),h1] at hd
   cases e:i-L.length with
   | zero=>rw [e] at hu' hd;simp at hu' hd;subst hu' hd;exact keep ht
   | succ j=>rw [e] at hu';simp at hu'
 ·have h4:=(hown.lt k hk).1
  have h5:=hZ k hm;omega
theorem addT_yes {l:List TV} {t:TV} (h:t∈l):addT l t=l:=by unfold addT;rw [if_pos h]
theorem addT_no {l:List TV} {t:TV} (h:t∉l):addT l t=l++[t]:=by unfold addT;rw [if_neg h]
theorem unlikeT_snoc (L:List TV) (t:TV):unlikeT (L++[t])=addT (unlikeT L) t:=by unfold unlikeT;rw [List.foldl_append];rfl
theorem nodesT_snoc (L:List TV) (t:TV) (v:Nat):nodesT (L++[t]) v=nodesT L v++(if depT t v then [t] else []):=by
 unfold nodesT;rw [List.filter_append];congr 1
 by_cases h:depT t v=true
 ·simp [h]
 ·simp [h]
structure TLQ (Z:List Nat) (L:List TV) (w:World) (e:Ending) (w':World):Prop where
 ex:∃ v:Value,e=.returned v/\TLs w' w.heap.size Z v L/\Upd [] w w'
theorem unlike_spec (n0:Nat) (Z:List Nat) (v:Value) (L:List TV) (w:World) (h:TLs w n0 Z v L) (hZ:∀ k,k∈Z->k<w.heap.size) (hl:L.length<=1073741824) :
  Calls Tryz.prog 150 #[v] w fun e w'=>TLQ Z (unlikeT L) w e w':=by
 obtain ⟨ti,hi2,hz2,hs2,hb2⟩:=info_parts Tryz.infoTable;have HI:=Lib.hid (And.intro hi2 (And.intro hz2 (And.intro hs2 hb2)));obtain ⟨fa,fc,rfl,hfa⟩:=h.form;have HL:=Lib.hid h;have HZ:=Lib.hid hZ;clear h hZ hi2 hz2 hs2 hb2
 go_enter Tryz.func150,Tryz.ntmps150
 go_wp2_with fail
 go_loopg [3,8] L.length (fun g s3 s8 wr=>∃ i:Nat,L.length-i=g/\i<=L.length/\s8=.int .i64 i/\TLs wr w.heap.size Z s3 (unlikeT (L.take i))/\Upd [] w wr)
 case atStart=>exact ⟨0,by omega,by omega,rfl,by simpa [unlikeT] using TLs.nil w w.heap.size Z,Upd.refl _ _⟩
 case round =>
  obtain ⟨i,rfl,hi,rfl,hT,hU⟩:=hrel
  by_cases hlt:i<L.length
  ·obtain ⟨u,hu⟩ : ∃ u,L[i]?=some u:=⟨_,List.getElem?_eq_getElem hlt⟩
   obtain ⟨ga,rfl⟩:=hfa (by omega);obtain ⟨cu,x0,x1,htu⟩:=(HL.out.keep0 hU).at_ hu;obtain ⟨ua,uc,hcu,_⟩:=row_nil_len htu.row;subst hcu;obtain ⟨oa,oc,hov,_⟩:=hT.form;subst hov
   have hil:(i:Int)<(L.length:Int):=by omega
   have hul:(unlikeT (L.take i)).length<=1073741824:=by
    have:=unlikeT_len (L.take i)
    rw [List.length_take] at this;omega
   have HS:Hid (unlikeT (L.take (i+1))=addT (unlikeT (L.take i)) u):=by
    show _=_
    rw [List.take_add_one,hu];exact unlikeT_snoc _ _
   generalize unlikeT (L.take i)=UL at *;obtain ⟨z0,z1⟩:=boxT wr (.int .i64 u.n) (.slice ua u.ws.length uc);have hUB:=(Upd.refl [] wr).alloc (.cells #[.int .i64 u.n,.slice ua u.ws.length uc] 122 (0,0));have HIN:=Lib.hid (in_spec w.heap.size Z (.slice oa UL.length oc) UL (.slice ua u.ws.length uc) u (wr.alloc (.cells #[.int .i64 u.n,.slice ua u.ws.length uc] 122 (0,0))) (hT.keep0 hUB) (htu.keep0 hUB) (by omega));have HTU:=Lib.hid (And.intro (hT.keep0 hUB) (And.intro (htu.keep0 hUB) (hU.trans hUB)));have HB:Hid ((wr.alloc (.cells #[.int .i64 u.n,.slice ua u.ws.length uc] 122 (0,0))).cell? ⟨wr.heap.size,0,none⟩=some (.int .i64 u.n)/\(wr.alloc (.cells #[.int .i64 u.n,.slice ua u.ws.length uc] 122 (0,0))).cell? ⟨wr.heap.size,1,none⟩=some (.slice ua u.ws.length uc)):=⟨z0,z1⟩;unfold tabV at HIN;generalize hUW:u.ws.length=UW at *;generalize hun:u.n=un at *;have HUN:=Lib.hid (And.intro hUW hun);clear htu hT hU hu hUB hUW hun;go_wp2_with fail;refine HIN.out.mono ?_;rintro e w3 ⟨rfl,hu3⟩;obtain ⟨y0,y1⟩:=boxT_keep hu3 HB.out;have HT3:=Lib.hid (And.intro (HTU.out.1.keep0 hu3) (And.intro (HTU.out.2.1.keep0 hu3) (HTU.out.2.2.trans hu3)));clear hu3 HIN HTU HB x0 x1 z0 z1
   by_cases e:u∈UL
   ·rw [decide_eq_true e]
    have HN:Hid (unlikeT (L.take (i+1))=UL):=by rw [HS.out,addT_yes e];exact rfl
    clear e HS;go_wp2_with fail
    go_roundg (L.length-(i+1))
    case measure=>omega
    case rel=>exact ⟨i+1,rfl,by omega,by simp,by rw [HN.out];exact HT3.out.1,HT3.out.2.2⟩
   ·rw [decide_eq_false e]
    have HN:Hid (unlikeT (L.take (i+1))=UL++[u]):=by rw [HS.out,addT_no e];exact rfl
    obtain ⟨xs,hrow⟩:=HT3.out.1.row;have HROW:=Lib.hid hrow
    have HC2:Hid (∀ z,z∈[Value.int .i64 un,Value.slice ua UW uc]->z.oneCell'=true):=by
     intro z hz;simp at hz;rcases hz with rfl | rfl <;> rfl
    have hsz3:=HT3.out.2.2.size
    have hbs:w.heap.size<=(w3.alloc (.cells #[.int .i64 un,.slice ua UW uc] 122 (0,0))).heap.size:=by rw [World.size_alloc];omega
    clear e HS hrow
    go_wp2_with (at_builtin;go_must (refine wpList_append_lies _ rfl (.tmp 16) (.tmp 18) 22 rfl w.heap.size 122 ti _ 2 32 Tryz.underlying22 HI.out.1 HI.out.2.1 HI.out.2.2.1 HI.out.2.2.2 (by rfl) (by decide) _ UL.length xs rfl (HROW.out.alloc _) ⟨w3.heap.size,0,none⟩ 1 1 [.int .i64 un,.slice ua UW uc] rfl rfl ?c1 HC2.out (by omega) (by unfold maxLen;omega) (by omega) hbs _ rfl ?_))
    case c1=>exact World.news_of_block (heap_alloc_new w3 (.cells #[.int .i64 un,.slice ua UW uc] 122 (0,0)))
    intro g5 cap w5 hown hgr hat hlt5
    have HE:Hid (TLs w5 w.heap.size Z (.slice (some ⟨g5,0,none⟩) (UL.length+1) cap) (UL++[u])/\Upd [] w w5):=by
     have hp:=HT3.out.1.push HT3.out.2.1 (by omega) HZ.out hgr HROW.out (by rw [HUN.out.2];exact hown);refine ⟨hp.1,HT3.out.2.2.then (hp.2 (Value.slice oa UL.length oc).ownBlock.toList fun k hk=>.inl (by rw [hk];simp)) fun k hk=>.inr ?_⟩
     have hk':(Value.slice oa UL.length oc).ownBlock=some k:=by simpa using hk
     exact (HROW.out.lt k hk').1
    clear hown hgr hat hlt5;go_wp2_with fail
    go_roundg (L.length-(i+1))
    case measure=>omega
    case rel=>exact ⟨i+1,rfl,by omega,by simp,by rw [HN.out];exact HE.out.1,HE.out.2⟩
  ·obtain rfl:i=L.length:=by omega
   have hil:¬ ((L.length:Int)<(L.length:Int)):=by omega
   have HE:Hid (TLs wr w.heap.size Z _ (unlikeT L)/\Upd [] w wr):=⟨by rw [List.take_length] at hT;exact hT,hU⟩;clear hT hU;go_wp2_with fail;go_ret;exact ⟨_,rfl,HE.out⟩
theorem nodes_spec (n0:Nat) (Z:List Nat) (v:Value) (L:List TV) (x:Nat) (w:World) (h:TLs w n0 Z v L) (hZ:∀ k,k∈Z->k<w.heap.size) (hl:L.length<=1073741824) (hx:∀ t,t∈L->x<t.n) (hx6:x<64) :
  Calls Tryz.prog 208 #[v,.int .i64 x] w fun e w'=>TLQ Z (nodesT L x) w e w':=by
 obtain ⟨ti,hi2,hz2,hs2,hb2⟩:=info_parts Tryz.infoTable;have HI:=Lib.hid (And.intro hi2 (And.intro hz2 (And.intro hs2 hb2)));obtain ⟨fa,fc,rfl,hfa⟩:=h.form;have HL:=Lib.hid h;have HZ:=Lib.hid hZ;have HX:=Lib.hid hx;clear hx;clear h hZ hi2 hz2 hs2 hb2
 go_enter Tryz.func208,Tryz.ntmps208
 go_wp2_with fail
 go_loopg [5,10] L.length (fun g s3 s8 wr=>∃ i:Nat,L.length-i=g/\i<=L.length/\s8=.int .i64 i/\TLs wr w.heap.size Z s3 (nodesT (L.take i) x)/\Upd [] w wr)
 case atStart=>exact ⟨0,by omega,by omega,rfl,by simpa [nodesT] using TLs.nil w w.heap.size Z,Upd.refl _ _⟩
 case round =>
  obtain ⟨i,rfl,hi,rfl,hT,hU⟩:=hrel
  by_cases hlt:i<L.length
  ·obtain ⟨u,hu⟩ : ∃ u,L[i]?=some u:=⟨_,List.getElem?_eq_getElem hlt⟩
   obtain ⟨ga,rfl⟩:=hfa (by omega);obtain ⟨cu,x0,x1,htu⟩:=(HL.out.keep0 hU).at_ hu;obtain ⟨ua,uc,hcu,_⟩:=row_nil_len htu.row;subst hcu;obtain ⟨oa,oc,hov,_⟩:=hT.form;subst hov
   have hil:(i:Int)<(L.length:Int):=by omega
   have hul:(nodesT (L.take i) x).length<=1073741824:=by
    have:=List.length_filter_le (fun t=>depT t x) (L.take i);rw [List.length_take] at this
    show (List.filter _ _).length<=_
    omega
   have HS:Hid (nodesT (L.take (i+1)) x=nodesT (L.take i) x++(if depT u x then [u] else [])):=by
    show _=_
    rw [List.take_add_one,hu];exact nodesT_snoc _ _ _
   generalize nodesT (L.take i) x=UL at *;obtain ⟨z0,z1⟩:=boxT wr (.int .i64 u.n) (.slice ua u.ws.length uc);have hUB:=(Upd.refl [] wr).alloc (.cells #[.int .i64 u.n,.slice ua u.ws.length uc] 122 (0,0));have HIN:=Lib.hid (depends_spec Z (.slice ua u.ws.length uc) u x (wr.alloc (.cells #[.int .i64 u.n,.slice ua u.ws.length uc] 122 (0,0))) (htu.keep0 hUB) (fun k hk=>Nat.lt_of_lt_of_le (HZ.out k hk) (hU.trans hUB).size) (HX.out u (List.mem_of_getElem? hu)) hx6);have HTU:=Lib.hid (And.intro (hT.keep0 hUB) (And.intro (htu.keep0 hUB) (hU.trans hUB)));have HB:Hid ((wr.alloc (.cells #[.int .i64 u.n,.slice ua u.ws.length uc] 122 (0,0))).cell? ⟨wr.heap.size,0,none⟩=some (.int .i64 u.n)/\(wr.alloc (.cells #[.int .i64 u.n,.slice ua u.ws.length uc] 122 (0,0))).cell? ⟨wr.heap.size,1,none⟩=some (.slice ua u.ws.length uc)):=⟨z0,z1⟩;unfold tabV at HIN;generalize hUW:u.ws.length=UW at *;generalize hun:u.n=un at *;have HUN:=Lib.hid (And.intro hUW hun);clear htu hT hU hu hUB hUW hun;go_wp2_with fail;refine HIN.out.mono ?_;rintro e w3 ⟨rfl,hu3⟩;obtain ⟨y0,y1⟩:=boxT_keep hu3 HB.out;have HT3:=Lib.hid (And.intro (HTU.out.1.keep0 hu3) (And.intro (HTU.out.2.1.keep0 hu3) (HTU.out.2.2.trans hu3)));clear hu3 HIN HTU HB x0 x1 z0 z1
   cases e:depT u x with
   | false =>
    have HN:Hid (nodesT (L.take (i+1)) x=UL):=by rw [HS.out,e];exact List.append_nil _
    clear e HS;go_wp2_with fail
    go_roundg (L.length-(i+1))
    case measure=>omega
    case rel=>exact ⟨i+1,rfl,by omega,by simp,by rw [HN.out];exact HT3.out.1,HT3.out.2.2⟩
   | true =>
    have HN:Hid (nodesT (L.take (i+1)) x=UL++[u]):=by rw [HS.out,e];exact rfl
    obtain ⟨xs,hrow⟩:=HT3.out.1.row;have HROW:=Lib.hid hrow
    have HC2:Hid (∀ z,z∈[Value.int .i64 un,Value.slice ua UW uc]->z.oneCell'=true):=by
     intro z hz;simp at hz;rcases hz with rfl | rfl <;> rfl
    have hsz3:=HT3.out.2.2.size
    have hbs:w.heap.size<=(w3.alloc (.cells #[.int .i64 un,.slice ua UW uc] 122 (0,0))).heap.size:=by rw [World.size_alloc];omega
    clear e HS hrow
    go_wp2_with (at_builtin;go_must (refine wpList_append_lies _ rfl (.tmp 17) (.tmp 19) 22 rfl w.heap.size 122 ti _ 2 32 Tryz.underlying22 HI.out.1 HI.out.2.1 HI.out.2.2.1 HI.out.2.2.2 (by rfl) (by decide) _ UL.length xs rfl (HROW.out.alloc _) ⟨w3.heap.size,0,none⟩ 1 1 [.int .i64 un,.slice ua UW uc] rfl rfl ?c1 HC2.out (by omega) (by unfold maxLen;omega) (by omega) hbs _ rfl ?_))
    case c1=>exact World.news_of_block (heap_alloc_new w3 (.cells #[.int .i64 un,.slice ua UW uc] 122 (0,0)))
    intro g5 cap w5 hown hgr hat hlt5
    have HE:Hid (TLs w5 w.heap.size Z (.slice (some ⟨g5,0,none⟩) (UL.length+1) cap) (UL++[u])/\Upd [] w w5):=by
     have hp:=HT3.out.1.push HT3.out.2.1 (by omega) HZ.out hgr HROW.out (by rw [HUN.out.2];exact hown);refine ⟨hp.1,HT3.out.2.2.then (hp.2 (Value.slice oa UL.length oc).ownBlock.toList fun k hk=>.inl (by rw [hk];simp)) fun k hk=>.inr ?_⟩
     have hk':(Value.slice oa UL.length oc).ownBlock=some k:=by simpa using hk
     exact (HROW.out.lt k hk').1
    clear hown hgr hat hlt5;go_wp2_with fail
    go_roundg (L.length-(i+1))
    case measure=>omega
    case rel=>exact ⟨i+1,rfl,by omega,by simp,by rw [HN.out];exact HE.out.1,HE.out.2⟩
  ·obtain rfl:i=L.length:=by omega
   have hil:¬ ((L.length:Int)<(L.length:Int)):=by omega
   have HE:Hid (TLs wr w.heap.size Z _ (nodesT L x)/\Upd [] w wr):=⟨by rw [List.take_length] at hT;exact hT,hU⟩;clear hT hU;go_wp2_with fail;go_ret;exact ⟨_,rfl,HE.out⟩
structure CofQ (u:TV) (x:Nat) (b:Bool) (n:Nat) (w:World) (e:Ending) (w':World):Prop where
 ex:∃ (a:Option Addr) (m c:Nat),e=.returned (.agg #[.int .i64 n,.slice a m c])/\TNew w w' (.slice a m c) (cofT u x b)/\Upd [] w w'
theorem CofQ.of {u:TV} {x n:Nat} {b:Bool} {w w':World} {e:Ending} (h:TabQ (cofT u x b) w e w') (hn:u.n=n):CofQ u x b n w e w':=by
 obtain ⟨c,rfl,hT,hu⟩:=h.ex;obtain ⟨a,m,hc,_⟩:=row_nil_len hT.row;subst hc;exact ⟨a,_,m,by unfold tabV;rw [show (cofT u x b).n=n from hn],hT,hu⟩
def ZBox (w:World) (b:Nat):Prop:=w.cell? ⟨b,0,none⟩=some (.int .i64 0)/\w.cell? ⟨b,1,none⟩=some (.slice none 0 0)/\w.frozen? ⟨b,0,none⟩=false/\w.frozen? ⟨b,1,none⟩=false/\b<w.heap.size
theorem ZBox.lt {w:World} {b:Nat} (h:ZBox w b):b<w.heap.size:=h.2.2.2.2
theorem zbox_new {V w':World} {b:Nat} (u:Upd [] (V.alloc (.cells #[.int .i64 0,.slice none 0 0] 122 (0,0))) w') (hb:V.heap.size=b):ZBox w' b:=by
 subst hb;have e:=(u.block _ (heap_lt (heap_alloc_new V _)) (by simp)).trans (heap_alloc_new V (.cells #[.int .i64 0,.slice none 0 0] 122 (0,0)));exact ⟨cell_at e rfl,cell_at e rfl,frozen_at 0 e,frozen_at 1 e,heap_lt e⟩
theorem zbox_keep {w w':World} {b:Nat} (u:Upd [] w w') (h:ZBox w b):ZBox w' b:=by
 have hb:b<w.heap.size:=World.block_lt_of_cell? _ _ h.1;exact ⟨(u.cell (a:=⟨b,0,none⟩) hb (by simp)).trans h.1,(u.cell (a:=⟨b,1,none⟩) hb (by simp)).trans h.2.1,(u.frozen (a:=⟨b,0,none⟩) hb (by simp)).trans h.2.2.1,(u.frozen (a:=⟨b,1,none⟩) hb (by simp)).trans h.2.2.2.1,Nat.lt_of_lt_of_le hb u.size⟩
theorem givenT_snoc (L:List TV) (t:TV) (x:Nat):givenT (L++[t]) x=addT (addT (givenT L x) (cofT t x false)) (cofT t x true):=by unfold givenT;rw [List.foldl_append];rfl
theorem givenT_len (L:List TV) (x:Nat):(givenT L x).length<=2*L.length:=by
 have key:∀ (L l:List TV),(L.foldl (fun l t=>addT (addT l (cofT t x false)) (cofT t x true)) l).length<=l.length+2*L.length:=by
  intro L
  induction L with
  | nil=>intro l;simp
  | cons a L ih =>
   intro l
   have:=ih (addT (addT l (cofT a x false)) (cofT a x true));have h1:=addT_len (addT l (cofT a x false)) (cofT a x true);have h2:=addT_len l (cofT a x false)
   simp only [List.foldl_cons,List.length_cons];omega
 have:=key L [];unfold givenT
 simpa using this
structure GivCut (u:TV) (x n:Nat) (w:World) (s8 s9:Value) (wc:World):Prop where
 ex:∃ (A B:Nat) (fa:Option Addr) (fm fc:Nat) (ta:Option Addr) (tm tc:Nat),s8=.pointer (some ⟨A,0,none⟩)/\s9=.pointer (some ⟨B,0,none⟩)/\w.heap.size<=A/\w.heap.size<=B /\
  wc.cell? ⟨A,0,none⟩=some (.int .i64 n)/\wc.cell? ⟨A,1,none⟩=some (.slice fa fm fc)/\wc.cell? ⟨B,0,none⟩=some (.int .i64 n)/\wc.cell? ⟨B,1,none⟩=some (.slice ta tm tc) /\
  TNew w wc (.slice fa fm fc) (cofT u x false)/\TNew w wc (.slice ta tm tc) (cofT u x true)/\Upd [] w wc
structure GivHalf (Z:List Nat) (L:List TV) (t:TV) (n:Nat) (w wr:World) (B:Nat) (ta:Option Addr) (tm tc:Nat) (s5:Value) (wx:World):Prop where
 ls:TLs wx w.heap.size Z s5 L
 tn:TNew wr wx (.slice ta tm tc) t
 b0:wx.cell? ⟨B,0,none⟩=some (.int .i64 n)
 b1:wx.cell? ⟨B,1,none⟩=some (.slice ta tm tc)
 up:Upd [] w wx
theorem sizeDrew (w:World):w.drew.heap.size=w.heap.size:=rfl
def GivQ (n:Nat) (w wc:World) (A B:Nat) (fa:Option Addr) (fm fc:Nat) (ta:Option Addr) (tm tc:Nat):Prop :=
 Upd [A,B] w wc/\wc.cell? ⟨A,0,none⟩=some (.int .i64 n)/\wc.cell? ⟨A,1,none⟩=some (.slice fa fm fc)/\wc.cell? ⟨B,0,none⟩=some (.int .i64 n)/\wc.cell? ⟨B,1,none⟩=some (.slice ta tm tc)
theorem set2_same {w:World} {A:Nat} (h:ZBox w A) (x y:Value):((w.setCell ⟨A,0,none⟩ x).setCell ⟨A,1,none⟩ y).cell? ⟨A,0,none⟩=some x/\((w.setCell ⟨A,0,none⟩ x).setCell ⟨A,1,none⟩ y).cell? ⟨A,1,none⟩=some y:=by
 refine ⟨?_,?_⟩
 ·rw [World.cell?_setCell_other _ _ _ _ (by simp)]
  exact World.cell?_setCell_same _ _ _ h.1
 ·exact World.cell?_setCell_same _ _ _ ((World.cell?_setCell_other _ _ _ _ (by simp)).trans h.2.1)
theorem set2_other {w:World} {A B:Nat} (h:A≠B) (x y:Value) (i:Nat):((w.setCell ⟨A,0,none⟩ x).setCell ⟨A,1,none⟩ y).cell? ⟨B,i,none⟩=w.cell? ⟨B,i,none⟩:=by
 rw [World.cell?_setCell_other _ _ _ _ (by simp),World.cell?_setCell_other _ _ _ _ (by simp)]
theorem giv_ss {n:Nat} {w:World} {A B:Nat} {fa:Option Addr} {fm fc:Nat} {ta:Option Addr} {tm tc:Nat} (hA:ZBox w A) (hB:ZBox w B) (hne:A≠B) :
  GivQ n w ((((w.setCell ⟨A,0,none⟩ (.int .i64 n)).setCell ⟨A,1,none⟩ (.slice fa fm fc)).setCell ⟨B,0,none⟩ (.int .i64 n)).setCell ⟨B,1,none⟩ (.slice ta tm tc)) A B fa fm fc ta tm tc:=by
 refine ⟨(((((Upd.refl _ w).setCell (by simp) _).setCell (by simp) _).setCell (by simp) _).setCell (by simp) _),?_,?_,?_,?_⟩
 ·rw [set2_other (Ne.symm hne)];exact (set2_same hA _ _).1
 ·rw [set2_other (Ne.symm hne)];exact (set2_same hA _ _).2
 ·exact (set2_same ⟨(set2_other hne _ _ 0).trans hB.1,(set2_other hne _ _ 1).trans hB.2.1,by rw [World.frozen?_setCell,World.frozen?_setCell];exact hB.2.2.1,by rw [World.frozen?_setCell,World.frozen?_setCell];exact hB.2.2.2.1,by simpa using hB.2.2.2.2⟩ _ _).1
 ·exact (set2_same ⟨(set2_other hne _ _ 0).trans hB.1,(set2_other hne _ _ 1).trans hB.2.1,by rw [World.frozen?_setCell,World.frozen?_setCell];exact hB.2.2.1,by rw [World.frozen?_setCell,World.frozen?_setCell];exact hB.2.2.2.1,by simpa using hB.2.2.2.2⟩ _ _).2
theorem giv_sa {n:Nat} {w:World} {A:Nat} {fa:Option Addr} {fm fc:Nat} {ta:Option Addr} {tm tc:Nat} (hA:ZBox w A) :
  GivQ n w (((w.setCell ⟨A,0,none⟩ (.int .i64 n)).setCell ⟨A,1,none⟩ (.slice fa fm fc)).alloc (.cells #[.int .i64 n,.slice ta tm tc] 122 (0,0))) A w.heap.size fa fm fc ta tm tc:=by
 have hl:=hA.2.2.2.2;have hz:=boxT ((w.setCell ⟨A,0,none⟩ (.int .i64 n)).setCell ⟨A,1,none⟩ (.slice fa fm fc)) (.int .i64 n) (.slice ta tm tc);rw [World.size_setCell,World.size_setCell] at hz;refine ⟨(((Upd.refl _ w).setCell (by simp) _).setCell (by simp) _).alloc _,?_,?_,hz.1,hz.2⟩
 ·rw [World.cell?_alloc_lt _ _ _ (by simpa using hl)];exact (set2_same hA _ _).1
 ·rw [World.cell?_alloc_lt _ _ _ (by simpa using hl)];exact (set2_same hA _ _).2
theorem giv_as {n:Nat} {w:World} {B:Nat} {fa:Option Addr} {fm fc:Nat} {ta:Option Addr} {tm tc:Nat} (hB:ZBox w B) :
  GivQ n w (((w.setCell ⟨B,0,none⟩ (.int .i64 n)).setCell ⟨B,1,none⟩ (.slice ta tm tc)).alloc (.cells #[.int .i64 n,.slice fa fm fc] 122 (0,0))) w.heap.size B fa fm fc ta tm tc:=by
 obtain ⟨h1,h2,h3,h4,h5⟩:=giv_sa (n:=n) (fa:=ta) (fm:=tm) (fc:=tc) (ta:=fa) (tm:=fm) (tc:=fc) hB;exact ⟨h1.mono fun x hx=>by simp only [List.mem_cons,List.not_mem_nil,or_false] at hx ⊢;exact hx.symm,h4,h5,h2,h3⟩
theorem giv_aa {n:Nat} {w:World} {fa:Option Addr} {fm fc:Nat} {ta:Option Addr} {tm tc:Nat} :
  GivQ n w ((w.alloc (.cells #[.int .i64 n,.slice fa fm fc] 122 (0,0))).alloc (.cells #[.int .i64 n,.slice ta tm tc] 122 (0,0))) w.heap.size (w.heap.size+1) fa fm fc ta tm tc:=by
 have hz:=boxT (w.alloc (.cells #[.int .i64 n,.slice fa fm fc] 122 (0,0))) (.int .i64 n) (.slice ta tm tc);have hy:=boxT w (.int .i64 n) (.slice fa fm fc);rw [World.size_alloc] at hz;refine ⟨((Upd.refl _ w).alloc _).alloc _,?_,?_,hz.1,hz.2⟩
 ·rw [World.cell?_alloc_lt _ _ _ (by simp)];exact hy.1
 ·rw [World.cell?_alloc_lt _ _ _ (by simp)];exact hy.2
theorem giv_aa' {n:Nat} {w:World} {fa:Option Addr} {fm fc:Nat} {ta:Option Addr} {tm tc:Nat} :
  GivQ n w ((w.alloc (.cells #[.int .i64 n,.slice ta tm tc] 122 (0,0))).alloc (.cells #[.int .i64 n,.slice fa fm fc] 122 (0,0))) (w.heap.size+1) w.heap.size fa fm fc ta tm tc:=by
 obtain ⟨h1,h2,h3,h4,h5⟩:=giv_aa (n:=n) (w:=w) (fa:=ta) (fm:=tm) (fc:=tc) (ta:=fa) (tm:=fm) (tc:=fc);exact ⟨h1.mono fun x hx=>by simp only [List.mem_cons,List.not_mem_nil,or_false] at hx ⊢;exact hx.symm,h4,h5,h2,h3⟩
theorem giv_leaf {u:TV} {x n:Nat} {w V1 w3 V2 w4 wc:World} {A B:Nat} {fa:Option Addr} {fm fc:Nat} {ta:Option Addr} {tm tc:Nat}
  (h1:TNew V1 w3 (.slice fa fm fc) (cofT u x false)) (h2:TNew V2 w4 (.slice ta tm tc) (cofT u x true)) (u2:Upd [] w3 w4) (u4:Upd [] w w4)
  (hq:GivQ n w4 wc A B fa fm fc ta tm tc)
  (hs:w.heap.size<=V1.heap.size/\w.heap.size<=V2.heap.size/\(A<V1.heap.size\/w3.heap.size<=A)/\(B<V1.heap.size\/w3.heap.size<=B)/\(A<V2.heap.size\/w4.heap.size<=A)/\(B<V2.heap.size\/w4.heap.size<=B)/\w.heap.size<=A/\w.heap.size<=B) :
  GivCut u x n w (.pointer (some ⟨A,0,none⟩)) (.pointer (some ⟨B,0,none⟩)) wc:=by
 obtain ⟨hc,cA0,cA1,cB0,cB1⟩:=hq;obtain ⟨hZ,hZ2,hA1,hB1,hA2,hB2,hA,hB⟩:=hs;refine ⟨A,B,fa,fm,fc,ta,tm,tc,rfl,rfl,hA,hB,cA0,cA1,cB0,cB1,?_,?_,?_⟩
 ·refine ⟨h1.ok,row_base (row_keep h1.row fun k hk=>?_) hZ⟩
  ·have hl:=h1.row.lt k hk
   refine (hc.block k (Nat.lt_of_lt_of_le hl.2 u2.size) ?_).trans (u2.block k hl.2 (by simp))
   simp only [List.mem_cons,List.not_mem_nil,or_false,not_or]
   omega
 ·refine ⟨h2.ok,row_base (row_keep h2.row fun k hk=>?_) hZ2⟩
  ·have hl:=h2.row.lt k hk
   refine hc.block k hl.2 ?_
   simp only [List.mem_cons,List.not_mem_nil,or_false,not_or]
   omega
 ·exact u4.then hc fun k hk=>by
   simp only [List.mem_cons,List.not_mem_nil,or_false] at hk
   right;rcases hk with rfl | rfl <;> assumption
theorem given_spec (n0:Nat) (Z:List Nat) (v:Value) (L:List TV) (x:Nat) (w:World) (h:TLs w n0 Z v L) (hZ:∀ k,k∈Z->k<w.heap.size) (hl:L.length<=536870912) (hx:∀ t,t∈L->x<t.n) (_hx6:x<64) :
  Calls Tryz.prog 209 #[v,.int .i64 x] w fun e w'=>TLQ Z (givenT L x) w e w':=by
 obtain ⟨ti,hi2,hz2,hs2,hb2⟩:=info_parts Tryz.infoTable;have HI:=Lib.hid (And.intro hi2 (And.intro hz2 (And.intro hs2 hb2)));obtain ⟨fa,fc,rfl,hfa⟩:=h.form;have HL:=Lib.hid h;have HZ:=Lib.hid hZ;have HX:=Lib.hid hx;clear h hZ hi2 hz2 hs2 hb2 hx
 go_enter Tryz.func209,Tryz.ntmps209
 go_wp2_with fail
 go_loopg [5,12] L.length (fun g s3 s8 wr=>∃ i:Nat,L.length-i=g/\i<=L.length/\s8=.int .i64 i/\TLs wr w.heap.size Z s3 (givenT (L.take i) x)/\Upd [] w wr)
 case atStart=>exact ⟨0,by omega,by omega,rfl,by simpa [givenT] using TLs.nil w w.heap.size Z,Upd.refl _ _⟩
 case round =>
  obtain ⟨i,rfl,hi,rfl,hT,hU⟩:=hrel
  by_cases hlt:i<L.length
  ·obtain ⟨u,hu⟩ : ∃ u,L[i]?=some u:=⟨_,List.getElem?_eq_getElem hlt⟩
   obtain ⟨ga,rfl⟩:=hfa (by omega);obtain ⟨cu,x0,x1,htu⟩:=(HL.out.keep0 hU).at_ hu;obtain ⟨ua,uc,hcu,_⟩:=row_nil_len htu.row;subst hcu;obtain ⟨oa,oc,hov,_⟩:=hT.form;subst hov
   have hil:(i:Int)<(L.length:Int):=by omega
   have hul:(givenT (L.take i) x).length<=1073741824:=by
    have:=givenT_len (L.take i) x
    rw [List.length_take] at this;omega
   have HS:Hid (givenT (L.take (i+1)) x=addT (addT (givenT (L.take i) x) (cofT u x false)) (cofT u x true)):=by
    show _=_
    rw [List.take_add_one,hu];exact givenT_snoc _ _ _
   generalize givenT (L.take i) x=UL at *;have HT0:=Lib.hid (And.intro hT hU);obtain ⟨z0,z1⟩:=boxT wr (.int .i64 u.n) (.slice ua u.ws.length uc)
   have HZR:Hid (∀ k,k∈Z->k<wr.heap.size):=fun k hk=>Nat.lt_of_lt_of_le (HZ.out k hk) hU.size
   have hUB:=(Upd.refl [] wr).alloc (.cells #[.int .i64 u.n,.slice ua u.ws.length uc] 122 (0,0));have HTU:=Lib.hid (And.intro (hT.keep0 hUB) (And.intro (htu.keep0 hUB) (hU.trans hUB)));have HXU:=Lib.hid (HX.out u (List.mem_of_getElem? hu));generalize hUW:u.ws.length=UW at *;generalize hun:u.n=un at *;have HUN:=Lib.hid (And.intro hUW hun)
   have HC:Hid (∀ (W:World) (b:Bool),Upd [] (wr.alloc (.cells #[.int .i64 un,.slice ua UW uc] 122 (0,0))) W->Calls Tryz.prog 136 #[.agg #[.int .i64 un,.slice ua UW uc],.int .i64 x,.bool b] W fun e w'=>CofQ u x b un W e w'):=fun W b hW=>by
    have:=tcof_all Z (.slice ua UW uc) u x b W (HTU.out.2.1.keep0 hW) (by rw [hun];exact HXU.out);unfold tabV at this;rw [hun] at this
    exact this.mono fun e w' h=>.of h hun
   clear htu hT hU hu hUB hUW hun;go_upto_region 5 with fail
   go_cut [8,9,12] from 12 to 38 (fun s8 s9 s12 wc=>s12=.int .i64 i/\GivCut u x un wr s8 s9 wc)
   case first =>
    go_region_held3 (fun w'=>w'.cell? ⟨wr.heap.size,0,none⟩=some (.int .i64 un)/\w'.cell? ⟨wr.heap.size,1,none⟩=some (.slice ua UW uc)) (exact boxT_keep (by repeat' (first | exact HU4.out | exact HU1.out | exact Upd.refl _ _ | refine Upd.setCell ?_ (Or.inr (by (try have q1:=HU1.out.size);(try have q2:=HU4.out.size);simp only [World.size_alloc] at *;omega)) _ | refine Upd.alloc ?_ _ | refine Upd.drew ?_)) ⟨z0,z1⟩) (first | (go_at_call_of 136 (Value.bool false);refine (HC.out _ false (by first | exact (Upd.refl [] _).drew | exact ((Upd.refl [] _).drew).alloc _ | exact (((Upd.refl [] _).drew).alloc _).alloc _)).mono ?_;rintro e w3 hE;obtain ⟨fA,fM,fC,rfl,hTf,huf⟩:=hE.ex;have HU1:Hid (Upd [] (wr.alloc (.cells #[.int .i64 un,.slice ua UW uc] 122 (0,0))) w3):=(by first | exact ((Upd.refl [] _).drew).trans huf | exact (((Upd.refl [] _).drew).alloc _).trans huf | exact ((((Upd.refl [] _).drew).alloc _).alloc _).trans huf);(try (have ZA:ZBox w3 (wr.heap.size+1):=by first | exact zbox_new (Upd.of_drew huf) (by show (wr.alloc _).heap.size=_;rw [World.size_alloc]) | exact zbox_new huf (by show (wr.alloc _).heap.size=_;rw [World.size_alloc]) | exact zbox_new (((Upd.refl [] _).alloc _).trans (Upd.of_drew huf)) (by show (wr.alloc _).heap.size=_;rw [World.size_alloc]) | exact zbox_new (((Upd.refl [] _).alloc _).trans huf) (by show (wr.alloc _).heap.size=_;rw [World.size_alloc])));(try (have ZB:ZBox w3 (wr.heap.size+1+1):=by first | exact zbox_new (Upd.of_drew huf) (by show ((wr.alloc _).alloc _).heap.size=_;rw [World.size_alloc,World.size_alloc]) | exact zbox_new huf (by show ((wr.alloc _).alloc _).heap.size=_;rw [World.size_alloc,World.size_alloc])));obtain ⟨v0,v1⟩:=boxT_keep HU1.out ⟨z0,z1⟩;(try (have NA:¬ (wr.heap.size+1=w3.heap.size):=Nat.ne_of_lt (ZBox.lt (by assumption));have NA':=Ne.symm NA));(try (have NB:¬ (wr.heap.size+1+1=w3.heap.size):=Nat.ne_of_lt (ZBox.lt (by assumption));have NB':=Ne.symm NB));have HTF:=Lib.hid (And.intro hTf huf);clear hE;(try clear hTf);(try clear huf)) | (go_at_call_of 136 (Value.bool true);refine (HC.out _ true (by first | exact HU1.out | exact HU1.out.alloc _ | exact (HU1.out.alloc _).alloc _)).mono ?_;rintro e w4 hE;obtain ⟨tA,tM,tC,rfl,hTt,hut⟩:=hE.ex;have HU2:Hid (Upd [] w3 w4):=(by first | exact hut | exact ((Upd.refl [] _).alloc _).trans hut | exact (((Upd.refl [] _).alloc _).alloc _).trans hut);have HU4:=Lib.hid (HU1.out.trans HU2.out);(try (have YA:ZBox w4 (wr.heap.size+1):=by exact zbox_keep HU2.out (by assumption)));(try (have YB:ZBox w4 (wr.heap.size+1+1):=by exact zbox_keep HU2.out (by assumption)));(try (have YC:ZBox w4 w3.heap.size:=by first | exact zbox_new hut rfl | exact zbox_new (((Upd.refl [] _).alloc _).trans hut) rfl));(try (have YD:ZBox w4 (w3.heap.size+1):=by exact zbox_new hut (by rw [World.size_alloc])));(try obtain ⟨ya0,ya1,ya2,ya3,ya4⟩:=YA);(try obtain ⟨yb0,yb1,yb2,yb3,yb4⟩:=YB);(try obtain ⟨yc0,yc1,yc2,yc3,yc4⟩:=YC);(try obtain ⟨yd0,yd1,yd2,yd3,yd4⟩:=YD);obtain ⟨u0,u1⟩:=boxT_keep HU2.out ⟨v0,v1⟩;have HTT:=Lib.hid (And.intro hTt hut);clear hE;(try clear hTt);(try clear hut)))
    all_goals go_wp2_with fail
    all_goals go_meet
    all_goals (refine ⟨rfl,giv_leaf HTF.out.1 HTT.out.1 HU2.out (((Upd.refl [] wr).alloc _).trans HU4.out) ?_ ?_⟩)
    all_goals (first | exact giv_aa | exact giv_aa' | exact giv_sa ⟨by assumption,by assumption,by assumption,by assumption,by assumption⟩ | exact giv_as ⟨by assumption,by assumption,by assumption,by assumption,by assumption⟩ | exact giv_ss ⟨by assumption,by assumption,by assumption,by assumption,by assumption⟩ ⟨by assumption,by assumption,by assumption,by assumption,by assumption⟩ (by first | assumption | simp) | skip)
    all_goals (have q1:=HTF.out.2.size;have q2:=HTT.out.2.size;have q3:=HU1.out.size;simp only [World.size_alloc,sizeDrew] at q1 q2 q3 ⊢)
    all_goals (refine ⟨by omega,by omega,by omega,by omega,by omega,by omega,by omega,by omega⟩)
   case rest =>
    obtain ⟨rfl,hG⟩:=hcut;obtain ⟨A,B,fA,fM,fC,tA,tM,tC,rfl,rfl,hA,hB,a0,a1,b0,b1,hta,htb,hu⟩:=hG.ex;have HAB:=Lib.hid (And.intro hA hB);have hTc:=HT0.out.1.keep0 hu;have HCA:=Lib.hid (And.intro hta (hta.tin HZR.out));have HCB:=Lib.hid (And.intro htb (htb.tin HZR.out));have HIN:=Lib.hid (in_spec w.heap.size Z (.slice oa UL.length oc) UL (.slice fA fM fC) (cofT u x false) wc hTc HCA.out.2 (by omega));have HNA:Hid ((cofT u x false).n=un/\(cofT u x true).n=un):=⟨HUN.out.2,HUN.out.2⟩;have HNB:=Lib.hid HNA.out.2;have HU:=Lib.hid (And.intro hu (HT0.out.2.trans hu));have HTC:=Lib.hid hTc;unfold tabV at HIN;rw [HNA.out.1] at HIN;generalize cofT u x false=ta at *;generalize cofT u x true=tb at *;clear hA hB hta htb hu hTc hG HC z0 z1
    go_upto_if 25 with (go_at_call 106;refine HIN.out.mono ?_;rintro e w3 ⟨rfl,hu3⟩;obtain ⟨a0,a1⟩:=boxT_keep hu3 ⟨a0,a1⟩;obtain ⟨b0,b1⟩:=boxT_keep hu3 ⟨b0,b1⟩;have HU3:=Lib.hid hu3;clear hu3)
    go_cut [5,12] from 12 to 38 (fun s5 s12 wx=>s12=.int .i64 i/\GivHalf Z (addT UL ta) tb un w wr B tA tM tC s5 wx)
    case first =>
     by_cases e:ta∈UL
     ·rw [decide_eq_true e]
      have HE:Hid (GivHalf Z (addT UL ta) tb un w wr B tA tM tC (.slice oa UL.length oc) w3):=by
       rw [addT_yes e];exact ⟨HTC.out.keep0 HU3.out,HCB.out.1.keep HU3.out,b0,b1,HU.out.2.trans HU3.out⟩
      clear e;go_wp2_with fail;go_meet;exact ⟨rfl,HE.out⟩
     ·rw [decide_eq_false e]
      obtain ⟨xs,hrow⟩:=(HTC.out.keep0 HU3.out).row;obtain ⟨xs0,hrow0⟩:=HT0.out.1.row;have HROW:=Lib.hid (And.intro hrow hrow0)
      have HC2:Hid (∀ z,z∈[Value.int .i64 un,Value.slice fA fM fC]->z.oneCell'=true):=by
       intro z hz;simp at hz;rcases hz with rfl | rfl <;> rfl
      have hsz3:=(HU.out.2.trans HU3.out).size
      have hbs:w.heap.size<=(w3.alloc (.cells #[.int .i64 un,.slice fA fM fC] 122 (0,0))).heap.size:=by rw [World.size_alloc];omega
      have HNE:Hid (ta∉UL):=e;have HBB:Hid (w3.cell? ⟨B,0,none⟩=some (.int .i64 un)/\w3.cell? ⟨B,1,none⟩=some (.slice tA tM tC)):=⟨b0,b1⟩;clear e HS hrow hrow0
      go_wp2_with (at_builtin;go_must (refine wpList_append_lies _ rfl (.tmp 26) (.tmp 28) 22 rfl w.heap.size 122 ti _ 2 32 Tryz.underlying22 HI.out.1 HI.out.2.1 HI.out.2.2.1 HI.out.2.2.2 (by rfl) (by decide) _ UL.length xs rfl (HROW.out.1.alloc _) ⟨w3.heap.size,0,none⟩ 1 1 [.int .i64 un,.slice fA fM fC] rfl rfl ?c1 HC2.out (by omega) (by unfold maxLen;omega) (by omega) hbs _ rfl ?_))
      case c1=>exact World.news_of_block (heap_alloc_new w3 (.cells #[.int .i64 un,.slice fA fM fC] 122 (0,0)))
      intro g5 cap w5 hown hgr hat hlt5
      have HE:Hid (GivHalf Z (addT UL ta) tb un w wr B tA tM tC (.slice (some ⟨g5,0,none⟩) (UL.length+1) cap) w5):=by
       rw [addT_no HNE.out];have hp:=(HTC.out.keep0 HU3.out).push (HCA.out.2.keep0 HU3.out) (by omega) HZ.out hgr HROW.out.1 (by rw [HNA.out.1];exact hown)
       have hS:=hp.2 (Value.slice oa UL.length oc).ownBlock.toList fun k hk=>.inl (by rw [hk];simp)
       have hfar:∀ k,wr.heap.size<=k->k∉(Value.slice oa UL.length oc).ownBlock.toList:=fun k hk hm=>by
        have hm':(Value.slice oa UL.length oc).ownBlock=some k:=by simpa using hm
        have:=(HROW.out.2.lt k hm').2;omega
       have hbl:B<w3.heap.size:=World.block_lt_of_cell? _ _ HBB.out.1;have hcb:=HCB.out.1.keep HU3.out;refine ⟨hp.1,⟨hcb.ok,row_keep hcb.row fun k hk=>hS.block k (hcb.row.lt k hk).2 (hfar k (hcb.row.lt k hk).1)⟩,(hS.cell (a:=⟨B,0,none⟩) hbl (hfar B HAB.out.2)).trans HBB.out.1,(hS.cell (a:=⟨B,1,none⟩) hbl (hfar B HAB.out.2)).trans HBB.out.2,?_⟩
       refine (HU.out.2.trans HU3.out).then hS fun k hk=>.inr ?_
       have hk':(Value.slice oa UL.length oc).ownBlock=some k:=by simpa using hk
       exact (HROW.out.2.lt k hk').1
      clear hown hgr hat hlt5;go_wp2_with fail;go_meet;exact ⟨rfl,HE.out⟩
    case rest =>
     obtain ⟨rfl,hG⟩:=hcut;obtain ⟨hT4,htb,b0,b1,hu4⟩:=hG
     have hVL:(addT UL ta).length<=1073741824+1:=by have:=addT_len UL ta;omega
     clear HTC HCA HCB HIN HU3 HU HT0 a0 a1 HTU HNA;generalize addT UL ta=VL at *;obtain ⟨va,vc,rfl,_⟩:=hT4.form;have HIN:=Lib.hid (in_spec w.heap.size Z (.slice va VL.length vc) VL (.slice tA tM tC) tb wc hT4 (htb.tin HZR.out) (by omega));have HTC:=Lib.hid (And.intro hT4 (And.intro (htb.tin HZR.out) hu4));unfold tabV at HIN;rw [HNB.out] at HIN;clear hT4 htb hu4;go_wp2_with fail;refine HIN.out.mono ?_;rintro e w3 ⟨rfl,hu3⟩;obtain ⟨b0,b1⟩:=boxT_keep hu3 ⟨b0,b1⟩;have HT3:=Lib.hid (And.intro (HTC.out.1.keep0 hu3) (And.intro (HTC.out.2.1.keep0 hu3) (HTC.out.2.2.trans hu3)));clear hu3 HIN HTC
     by_cases e:tb∈VL
     ·rw [decide_eq_true e]
      have HN:Hid (givenT (L.take (i+1)) x=VL):=by rw [HS.out,addT_yes e];exact rfl
      clear e HS;go_wp2_with fail
      go_roundg (L.length-(i+1))
      case measure=>omega
      case rel=>exact ⟨i+1,rfl,by omega,by simp,by rw [HN.out];exact HT3.out.1,HT3.out.2.2⟩
     ·rw [decide_eq_false e]
      have HN:Hid (givenT (L.take (i+1)) x=VL++[tb]):=by rw [HS.out,addT_no e];exact rfl
      obtain ⟨xs,hrow⟩:=HT3.out.1.row;have HROW:=Lib.hid hrow
      have HC2:Hid (∀ z,z∈[Value.int .i64 un,Value.slice tA tM tC]->z.oneCell'=true):=by
       intro z hz;simp at hz;rcases hz with rfl | rfl <;> rfl
      have hsz3:=HT3.out.2.2.size
      have hbs:w.heap.size<=(w3.alloc (.cells #[.int .i64 un,.slice tA tM tC] 122 (0,0))).heap.size:=by rw [World.size_alloc];omega
      clear e HS hrow
      go_wp2_with (at_builtin;go_must (refine wpList_append_lies _ rfl (.tmp 34) (.tmp 36) 22 rfl w.heap.size 122 ti _ 2 32 Tryz.underlying22 HI.out.1 HI.out.2.1 HI.out.2.2.1 HI.out.2.2.2 (by rfl) (by decide) _ VL.length xs rfl (HROW.out.alloc _) ⟨w3.heap.size,0,none⟩ 1 1 [.int .i64 un,.slice tA tM tC] rfl rfl ?c1 HC2.out (by omega) (by unfold maxLen;omega) (by omega) hbs _ rfl ?_))
      case c1=>exact World.news_of_block (heap_alloc_new w3 (.cells #[.int .i64 un,.slice tA tM tC] 122 (0,0)))
      intro g5 cap w5 hown hgr hat hlt5
      have HE:Hid (TLs w5 w.heap.size Z (.slice (some ⟨g5,0,none⟩) (VL.length+1) cap) (VL++[tb])/\Upd [] w w5):=by
       have hp:=HT3.out.1.push HT3.out.2.1 (by omega) HZ.out hgr HROW.out (by rw [HNB.out];exact hown);refine ⟨hp.1,HT3.out.2.2.then (hp.2 (Value.slice va VL.length vc).ownBlock.toList fun k hk=>.inl (by rw [hk];simp)) fun k hk=>.inr ?_⟩
       have hk':(Value.slice va VL.length vc).ownBlock=some k:=by simpa using hk
       exact (HROW.out.lt k hk').1
      clear hown hgr hat hlt5;go_wp2_with fail
      go_roundg (L.length-(i+1))
      case measure=>omega
      case rel=>exact ⟨i+1,rfl,by omega,by simp,by rw [HN.out];exact HE.out.1,HE.out.2⟩
  ·obtain rfl:i=L.length:=by omega
   have hil:¬ ((L.length:Int)<(L.length:Int)):=by omega
   have HE:Hid (TLs wr w.heap.size Z _ (givenT L x)/\Upd [] w wr):=⟨by rw [List.take_length] at hT;exact hT,hU⟩;clear hT hU;go_wp2_with fail;go_ret;exact ⟨_,rfl,HE.out⟩
end Go.Proofs.YtfkopmhpppeheaaGreat
