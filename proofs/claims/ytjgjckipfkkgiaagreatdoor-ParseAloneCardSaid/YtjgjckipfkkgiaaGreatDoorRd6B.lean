/-
  busbarlaw06's read, where the source is refused.
-/
import Derived.Test.YtjgjckipfkkgiaaGreatDoorBaseD
import Derived.Test.YtjgjckipfkkgiaaGreatDoorGat6
import Derived.Test.YtjgjckipfkkgiaaGreatDoorPrsS
import Derived.Test.YtjgjckipfkkgiaaGreatDoorAppT
import Derived.Test.YtjgjckipfkkgiaaGreatDoorHeldL
import Derived.Test.YtjgjckipfkkgiaaGreatDoorCalm
import Derived.Test.YtjgjckipfkkgiaaGreatDoorSamA
set_option maxHeartbeats 128000000
set_option linter.unusedVariables false
namespace Go.Proofs.YtjgjckipfkkgiaaGreatDoor
open Go.Proofs.Tryz
open Go.RowKit Go.Shelf
theorem step_storeR {P:Program} {ops:Array Oper} {o:Oper} {a:Act} {w:World} {K:Act→World→Prop} {Q:Exit→Act→World→Prop} {E:Prop} {k:Nat} {old cs:Array Value} (hb:Blk w k old) (ty:TypeId) (x y:Operand)
  (hi:(P.info? ty).map (·.size)=some cs.size) (hs:old.size=cs.size) (h1:cs.all (·.oneCell')=true) (h:K (a.put o.dst undef) (w.setRow k cs))
  (hgd:o.guard=none:=by rfl) (ho:o.op=.store ty x y:=by rfl) (hx:a.eval x=.pointer (some ⟨k,0,none⟩):=by rfl) (hy:a.eval y=.agg cs:=by rfl) :
  if Region.wanted o (yielded ops a.tmps)=true then Oper.wp P o a w K Q else E:=by
 obtain⟨T,hb⟩:=hb;rw[if_pos (by simp[Region.wanted,hgd])];unfold Oper.wp execOp;simp only[ho,hx,hy,Instr.storeAt,Instr.sureAddr,Sem.run_bind,Sem.run_pure,Result.andThen_ok,run_storeVar_row w k T ty old cs hb hi hs h1];exact h
theorem yields_loadS {P:Program} {ops:Array Oper} {S:World→Prop} {o:Oper} {a:Act} {k:Nat} {cs:Array Value} (hS:∀ w,S w→Blk w k cs) (ty:TypeId) (x:Operand) {d:TypeDesc}
  (hu:P.underlying ty=some d) (hi:(P.info? ty).map (·.size)=some cs.size)
  (hgd:Region.wanted o (yielded ops a.tmps)=true:=by rfl) (ho:o.op=.load ty x:=by rfl) (hx:a.eval x=.pointer (some ⟨k,0,none⟩):=by rfl) (hd:d.isRow=true:=by rfl):YieldsIf P ops S o (.agg cs) a:=by
 refine Or.inl ⟨hgd,fun w hw=>?_⟩;unfold execOp;simp only[ho,hx,Instr.loadAt,Instr.sureAddr,Sem.run_bind,Sem.run_pure,Result.andThen_ok,run_loadS (hS w hw) ty d hu hd hi]
theorem fit6 {d:DbD} {n:Nat} (h:DbBd d n):∀ x∈nodsD d,NodFit x:=by
 unfold nodsD;intro x hx;rcases List.mem_append.1 hx with hx|hx
 ·cases hd:d.has<;>simp[hd]at hx
  subst hx;trivial
 ·rcases List.mem_cons.1 hx with rfl|hx
  ·exact h.nam
  ·rcases List.mem_append.1 hx with hx|hx
   ·obtain⟨m,hm,rfl⟩:=List.mem_map.1 hx;have:=h.msg m hm;exact⟨by have:=this.1;omega,this.2⟩
   ·obtain⟨t,ht,rfl⟩:=List.mem_map.1 hx;have:=h.tab t ht;show t.rows.length≤4000000;omega
theorem nods_len6 {d:DbD} {n:Nat} (h:DbBd d n):(nodsD d).length≤n+514:=by
 unfold nodsD;have h1:=h.mln;have h2:=h.tln;have:(if d.has then [NodeD.ver d.ver] else []).length≤1:=by cases d.has<;>simp
 simp only[List.length_append,List.length_cons,List.length_map];omega
theorem sl_nodes6 {w:World} {base:Nat} {T:List (NodeD×Nat×Nat)} {d:DbD} {aa:Option Addr} {N ca:Nat} (h:OwnRd w base 90 fdNodT 1 (.slice aa N ca) T) (hf:T.map Prod.fst=nodsD d):SlRd w rdNode 1 aa ca (nodsD d):=by
 have h2:=h.fst (rd:=fdNode) fun x _ cs hc=>fd_nodT hc
 rw[hf]at h2;obtain⟨a,c,e,hs⟩:=h2.shape;injection e with e1 e2 e3
 rw[e1,e3];exact hs.weak fun _ _=>fd_node
theorem gather6_any (d:DbD) (hb:DbBd d 1048577) (hv:VerOK d) (n:Nat) (hn:n=(nodsD d).length) (a:Option Addr) (cap:Nat) (w:World) (hs:SlRd w rdNode 1 a cap (nodsD d)) :
  Calls prog 19 #[.slice a n cap] w fun e w'=>∃ C:Array Value,e=.returned (.tuple #[.agg C,.nilIface])∧fdDb w' d C.toList∧Below w.heap.size w w':=by
 have hl:=nods_len6 hb;refine(gather_any (nodsD d) (fit6 hb) n hn (by omega) a cap w hs).mono ?_;rintro e w' ⟨v,rfl,hg,hbel⟩;rw[gat6_read d hv]at hg;obtain⟨C,rfl,hf⟩:=hg;exact⟨C,rfl,hf,hbel⟩
set_option maxRecDepth 100000 in theorem read6_good (s : List UInt8) (hs : s.length ≤ 9223372036854775807) (d : DbD) (hd : DbBd d 1048577) (hv : VerOK d) (hf : fileR s = .good (nodsD d)) (w : World) (hW : FileW w) :
  Calls prog 6 #[.string ⟨s.toArray⟩] w fun e w'=>∃ C:Array Value,e=.returned (.tuple #[.agg C,.bool true])∧fdDb w' d C.toList∧Below w.heap.size w w':=by
 have cF:=fun W (h:FileW W)=>file_any s hs W h
 rw[hf]at cF;have cG:=fun (W:World) (n:Nat) (hn:n=(nodsD d).length) a cap hsl=>gather6_any d hd hv n hn a cap W hsl
 have hbn:Below w.heap.size w (w.alloc (.cells zeroDb 32)):=(Below.refl _ _).alloc lrf _;have HW:=Qh (hW.keep hbn);have HB:=Qh hbn;have HZ:=Qh (heap_alloc_new w (.cells zeroDb 32));have hu:=underlying32;clear hd hv hf hW hbn;go_enter func6,ntmps6
 go_wp2_with fail;generalize hkq:w.heap.size=k2 at *;generalize w.alloc (.cells zeroDb 32)=W at *;have HKQ:=Qh hkq;clear hkq;with_reducible refine(cF _ HW.out).mono ?_
 rintro e w1 ⟨v,T,rfl,ho,ht,hc,hb⟩;obtain⟨a,c,ev,-⟩:=ho.shape;have hN:T.length=(nodsD d).length:=(by rw[← ht,List.length_map]);rw[hN]at ev;subst ev;have HS:=Qh (sl_nodes6 ho ht);have hk2:=(gE HZ.out)
 have hs1:=hb.size;have HSZ:=Qh (show k2 < w1.heap.size by omega);replace HB:=Qh (HB.out.trans (hb.mono (Nat.le_of_lt hk2)));replace HZ:=Qh (kind_at HZ.out hb);obtain⟨N,hNN⟩:∃ N,N=(nodsD d).length:=⟨_,rfl⟩
 have HNN:=Qh hNN;rw[← hNN];clear cF hb ho ht hc hN hNN HW hk2 hs1 hu;go_wp2_with fail;with_reducible refine(cG _ _ HNN.out _ _ HS.out).mono ?_
 rintro e w2 ⟨C,rfl,hC,hb⟩;have hs1:=hb.size;replace HB:=Qh (HB.out.trans (hb.mono (Nat.le_of_lt HSZ.out)));replace HSZ:=Qh (show k2 < w2.heap.size by have:=HSZ.out;omega);replace HZ:=Qh (kind_at HZ.out hb);have HC:=Qh hC;obtain⟨hC9,hC1⟩:=fdDb_shape (b:=0) hC;have hu:=underlying32;clear cG hb hC hs1 HS;go_upto_region 5 with (refine wpList_newS (Z:=zeroDb) (cs:=C) 32 (.tmp 6) (.tmp 19) (by rw[hC9];exact db_zero) (by rw[hC9];rfl) hC1 ?_)
 have B6:Blk (w2.alloc (.cells C 32)).drew w2.heap.size C:=⟨_,heap_alloc_new w2 _⟩
 have K2:=(kind_at HZ.out (((Below.refl w2.heap.size w2).alloc lrf (.cells C 32)).drew))
 refine wp_region_held_drew (S:=fun (w':World)=>Blk w' w2.heap.size C) (by kernel_rfl) B6 (fun hHeld=>?_);refine held_take 0 (v:=.agg C) rfl (by kernel_rfl) (by kernel_rfl) (by kernel_rfl) (fun _ _ _ h=>h) (by assumption) ?_ ?_
 ·exact yields_loadS (fun w h=>h) 32 (.tmp 6) hu (by rw[hC9];exact db_size)
 try simp only[spt]
 refine hT 1 ?_;try simp only[spt]
 refine hT 2 ?_;try simp only[spt]
 have B2:Blk (w2.alloc (.cells C 32)).drew k2 zeroDb:=⟨_,K2⟩
 have nk:w2.heap.size≠k2:=(by have:=HSZ.out;omega);refine held_call 3 rfl (by kernel_rfl) (fun K hK=>?_);refine step_storeR (cs:=C) B2 32 (.tmp 2) (.tmp 21) (by rw[hC9];exact db_size) (by rw[hC9];rfl) hC1 ?_;clear hHeld;refine hK.out _ _ ?_ (fun hHeld=>?_)
 ·exact B6.rowOther nk C
 clear hK K;try simp only[spt]
 refine hT 4 ?_;try simp only[spt]
 refine wpAnyH_done (by kernel_rfl) ?_ _;go_wp2_with fail;have hrun:=run_loadS (B2.row C) 32 _ hu rfl (by rw[hC9];exact db_size);refine bodyPost_ret (v:=.tuple #[.agg C,.bool true]) (by simp[results,results6,asAddr,hrun]) rfl ⟨C,rfl,?_,?_⟩
 ·have hb2:Below w2.heap.size w2 (w2.alloc (.cells C 32)).drew:=((Below.refl w2.heap.size w2).alloc lrf _).drew;exact apt_fdDbN 0 (by decide) (by decide) (by decide) (by decide) (by decide) _ _ _ _ k2 _ _ (last_fdDb _ _ _ _ HC.out hb2) K2 (by simp[World.setRow]) (fun b _ hb=>heap_setRow_other _ _ _ _ hb)
 ·have hb2:=(HB.out.trans (((Below.refl w2.heap.size w2).alloc lrf (.cells C 32)).drew.mono (Nat.le_of_lt HSZ.out)))
  rw[HKQ.out];exact below_row hb2 lrf C
set_option maxRecDepth 100000 in theorem read6_bad (s : List UInt8) (hs : s.length ≤ 9223372036854775807) (T : TypeId) (x : Value) (hf : fileR s = .bad (.iface T x)) (w : World) (hW : FileW w) :
  Calls prog 6 #[.string ⟨s.toArray⟩] w fun e w'=>e=.returned (.tuple #[.agg zeroDb,.bool false])∧Below w.heap.size w w':=by
 have cF:=fun W (h:FileW W)=>file_any s hs W h
 rw[hf]at cF;have hbn:Below w.heap.size w (w.alloc (.cells zeroDb 32)):=(Below.refl _ _).alloc lrf _;have HW:=Qh (hW.keep hbn);have HB:=Qh hbn;have HZ:=Qh (heap_alloc_new w (.cells zeroDb 32));have hu:=underlying32;clear hf hW hbn;go_enter func6,ntmps6
 go_wp2_with fail;generalize hkq:w.heap.size=k2 at *;generalize w.alloc (.cells zeroDb 32)=W at *;have HKQ:=Qh hkq;clear hkq;with_reducible refine(cF _ HW.out).mono ?_
 rintro e w1 ⟨rfl,hb⟩;have hk2:=(gE HZ.out)
 replace HB:=Qh (HB.out.trans (hb.mono (Nat.le_of_lt hk2)));have B2:Blk w1 k2 zeroDb:=⟨_,kind_at HZ.out hb⟩
 clear cF hb HW HZ hk2;go_wp2_with (refine wpList_storeS (cs:=zeroDb) B2 32 (.tmp 2) (.tmp 15) db_size rfl zeroDb_one ?_)
 have hrun:=run_loadS (B2.row zeroDb) 32 _ hu rfl db_size;refine bodyPost_ret (v:=.tuple #[.agg zeroDb,.bool false]) (by simp[results,results6,asAddr,hrun]) rfl ⟨rfl,?_⟩;rw[HKQ.out];exact below_row HB.out lrf zeroDb
end Go.Proofs.YtjgjckipfkkgiaaGreatDoor
