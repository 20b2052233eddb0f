import Derived.Test.YtpfafhmkbcahhaaGreatPT24
import Derived.Test.YtpfafhmkbcahhaaGreatPT32
import Derived.Test.YtpfafhmkbcahhaaGreatPT15
import Derived.Maps.OwnSet
set_option maxRecDepth 100000
set_option maxHeartbeats 800000
namespace Go.Proofs.YtpfafhmkbcahhaaGreat
open Go.RowKit Go.Maps Go.ChangeMaps Go.WideShapes
theorem tcount_spec (tb:Nat) (F:List Nat) (v:Nat) (T:List DM) (D:DM) (w:World) (h:TabAt w tb T F) (hv:T[v]?=some D) :
  Calls Tryz.prog 149 #[.pointer (some ⟨tb,0,none⟩),.int .i64 v] w fun e w'=>e=.returned (.tuple #[.int .i64 (Maps.size D),.int .i64 0])/\Upd [] w w':=by
 have hvl:=(List.getElem?_eq_some_iff.1 hv).1;have hbd:=h.bd;obtain ⟨g,cap,m,hf1,hf2,hf3,hc0,hc1,ho⟩:=h.cells hv;have hl:=h.lt;have HT:=Lib.hid h;have HO:=Lib.hid ho
 have hi:(v:Int)<(T.length:Int):=by omega
 clear h ho hl hv
 go_enter Tryz.func149,Tryz.ntmps149
 go_wp2_with fail;refine (tcheck_ok tb F v T _ HT.out (by omega) (by omega)).mono ?_;rintro e w1 ⟨rfl,rfl⟩;go_wp2_with fail;rw [World.ownsMap.len HO.out Tryz.underlying284 3];go_wp2_with fail;go_ret2;exact ⟨rfl,Upd.refl _ _⟩
theorem width_at (b v:Nat) (K:KV) (T:List DM) (q:KPtr) (D:DM) (w:World) (h:KerIn w b K T q) (hv:v<K.vars) (hT:T[v]?=some D) :
  Calls Tryz.prog 60 #[.pointer (some ⟨b,0,none⟩),.int .i64 v] w fun e w'=>e=.returned (.tuple #[.int .i64 (Maps.size D),.int .i64 0])/\Upd [] w w':=by
 have c1:w.cell? ⟨b,1,none⟩=some (.pointer (some ⟨q.t,0,none⟩)):=cell_at h.mem.blk rfl;have HV:=Lib.hid (variable_spec b v K T q w h.mem);rw [show K.isVar v=true by simp [KV.isVar,hv]] at HV;have HC:=Lib.hid (tcount_spec q.t q.FT v T D w h.mem.tab hT);clear h hT
 go_enter Tryz.func60,Tryz.ntmps60
 go_wp2_with fail;refine HV.out.mono ?_;rintro e w1 ⟨rfl,rfl⟩;go_wp2_with fail;refine HC.out.mono ?_;rintro e w2 ⟨rfl,hu⟩;have HU:=Lib.hid hu;clear hu;go_wp2_with fail;go_ret2;exact ⟨rfl,HU.out⟩
theorem size_ge_keys {D:DM} {es:List (Lit × DM)} (e:D=.map es) {ks:List Lit} (hn:ks.Nodup) (h:∀ k,k∈ks->Maps.has D k=true):ks.length<=Maps.size D:=by
 subst e
 have hsub:ks ⊆ es.map (·.1):=by
  intro k hk
  have:=h k hk
  simp only [Maps.has,List.any_eq_true] at this
  obtain ⟨p,hp,hs⟩:=this;exact List.mem_map.2 ⟨p,hp,WideAt.sameKey_eq hs⟩
 have:=List.Nodup.length_le_of_subset hn hsub
 simpa [Maps.size] using this
def KV.nodesV (K:KV) (v:Nat):List Nat:=K.nodes.filter fun r=>decide (K.vI r=(v:Int))
theorem KV.mem_nodesV {K:KV} {v r:Nat}:r∈K.nodesV v↔2<=r/\K.A.tk r=true/\K.vI r=(v:Int):=by
 unfold KV.nodesV;rw [List.mem_filter,KV.mem_nodes,decide_eq_true_eq,and_assoc]
theorem TInv.sizeV {T:List DM} {K:KV} (h:TInv T K []) (hw:K.Wf []) {v:Nat} {D:DM} (hv:T[v]?=some D) (hc:Maps.Canon D) (ht:Tidy D):Maps.size D=(K.nodesV v).length:=by
 have hnd:(K.nodesV v).Nodup:=List.Pairwise.filter _ K.nodes_nodup
 have key:∀ r,r∈K.nodesV v->∃ p,2<=r/\K.A.list[r]?=some p/\p.taken=true/\p.var=(v:Int):=fun r hr=>by
  obtain ⟨h2,h3,h4⟩:=KV.mem_nodesV.1 hr;obtain ⟨p,hp,hpt⟩:=ArenaV.tk_iff.1 h3;rw [KV.vI_at hp] at h4;exact ⟨p,h2,hp,hpt,h4⟩
 let kf:Nat->Lit:=fun r=>match K.A.list[r]? with | some p=>nkp p | none=>nk 0 0 0
 have kfe:∀ r p,K.A.list[r]?=some p->kf r=nkp p:=fun r p hp=>by show (match K.A.list[r]? with | some p=>nkp p | none=>nk 0 0 0)=_;rw [hp]
 have hkn:((K.nodesV v).map kf).Nodup:=by
  refine List.pairwise_map.2 (List.Pairwise.imp_of_mem (fun {a b} ha hb hne e=>hne ?_) hnd);obtain ⟨p,h2,hp,hpt,_⟩:=key a ha;obtain ⟨c,h2',hc',hct,_⟩:=key b hb;rw [kfe a p hp,kfe b c hc'] at e;exact h.uniq hw h2 h2' hp hc' hpt hct (by simp) (by simp) e
 refine Nat.le_antisymm ?_ ?_
 ·have:=size_le_keys hc (ks:=(K.nodesV v).map kf) (fun k hk=>by
   obtain ⟨r,p,h2,hp,hpt,hpv,rfl,_⟩:=h.dom v D k hv hk
   exact List.mem_map.2 ⟨r,KV.mem_nodesV.2 ⟨h2,ArenaV.tk_iff.2 ⟨p,hp,hpt⟩,by rw [KV.vI_at hp];exact hpv⟩,kfe r p hp⟩) ht
  simpa using this
 ·obtain ⟨es,e,_⟩:=hc
  have:=size_ge_keys e hkn (fun k hk=>by
   obtain ⟨r,hr,rfl⟩:=List.mem_map.1 hk;obtain ⟨p,h2,hp,hpt,hpv⟩:=key r hr;rw [kfe r p hp]
   exact (h.at_ r p D h2 hp hpt (by simp) (by rw [hpv];exact hv)).1)
  simpa using this
end Go.Proofs.YtpfafhmkbcahhaaGreat
