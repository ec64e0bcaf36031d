/-
  strings.NewReplacer and the first Do of its Once, as chars.Quote has them: contracts.
-/
import Derived.Test.YtkblpaabknjckaaGreatDoorBaseD
import Derived.Test.YtkblpaabknjckaaGreatDoorLexB
import Derived.Tactics
import Derived.Tactics2
import Derived.Defers
import Derived.Laws.Pointers
import Derived.Laws.LoneSync
import Derived.RegionTactic
import Derived.RegionCalls
import Derived.ChangeAlike
import Derived.Test.YtkblpaabknjckaaGreatDoorBaseC
import Derived.Test.YtkblpaabknjckaaGreatDoorTxtP
import Derived.Deep.WholeRow
import Derived.Lib.SlBytesConst
set_option maxHeartbeats 128000000
set_option linter.unusedVariables false
namespace Go.Proofs.YtkblpaabknjckaaGreatDoor
open Go.Proofs.Tryz
open Go.RowKit
theorem rDisable (w:World):(callFunc 216 #[]).run prog w=.ok (.value (.tuple #[])) w:=run_call_mark0 func216 (by kernel_rfl) (by kernel_rfl) (by kernel_rfl) .disable (by kernel_rfl) w
theorem rEnable (w:World):(callFunc 218 #[]).run prog w=.ok (.value (.tuple #[])) w:=run_call_mark0 func218 (by kernel_rfl) (by kernel_rfl) (by kernel_rfl) .enable (by kernel_rfl) w
theorem rAcquire (a:Addr) (w:World):(callFunc 219 #[.pointer (some a)]).run prog w=.ok (.value (.tuple #[])) w:=run_call_marked func219 (by kernel_rfl) (by kernel_rfl) (by kernel_rfl) .acquire (by kernel_rfl) a w
theorem rRelease (a:Addr) (w:World):(callFunc 221 #[.pointer (some a)]).run prog w=.ok (.value (.tuple #[])) w:=run_call_marked func221 (by kernel_rfl) (by kernel_rfl) (by kernel_rfl) .releaseMerge (by kernel_rfl) a w
theorem store_deferred (a:Addr) (x:Value) (u:FrameMode) (w:World) (hc:w.cell? a=some x) (hz:w.frozen? a=false) :
  CallsD prog 192 #[.pointer (some a),.bool true] u w fun e u' w'=>u' = u∧(e=.returned (.tuple #[])∧w' = w.drew.setCell a (.int .u32 1)):=by
 have hc':w.drew.cell? a=some x:=(by go_simp);have hz':w.drew.frozen? a=false:=(by go_simp);have hst:=run_call_store (P:=prog) func208 (by kernel_rfl) (by kernel_rfl) (by kernel_rfl) (by kernel_rfl) (k:=.u32) (y:=1) hc' hz';go_enter_d func192,ntmps192
 go_wp2
 go_region_calls
 all_goals (go_end0;exact⟨rfl,rfl⟩)
set_option maxRecDepth 100000 in theorem unlock_deferred (a : Addr) (u : FrameMode) (w : World) (hc : w.cell? a = some (.int .i32 1)) (hz : w.frozen? a = false) :
  CallsD prog 191 #[.pointer (some a)] u w fun e u' w'=>u' = u∧(e=.returned (.tuple #[])∧w' = w.setCell a (.int .i32 0)):=by
 have hd:=rDisable;have he:=rEnable;have hr:=rRelease;have hadd:=run_call_add (P:=prog) func222 (by kernel_rfl) (by kernel_rfl) (by kernel_rfl) .i32 (by kernel_rfl) (y:=-1) (s:=0) hc hz (by simp[go_sem];rfl);have hcv:=run_convert_to_unsafe (P:=prog) (src:=320) (dst:=100) underlying320 underlying100 (by kernel_rfl) hc;go_enter_d func191,ntmps191
 go_wp2
 go_end0
 go_wp2
 go_end0
 exact⟨rfl,rfl⟩
set_option maxRecDepth 100000 in theorem lock_free (a : Addr) (w : World) (hc : w.cell? a = some (.int .i32 0)) (hz : w.frozen? a = false) :
  Calls prog 190 #[.pointer (some a)] w fun e w'=>e=.returned (.tuple #[])∧w' = w.setCell a (.int .i32 1):=by
 have hd:=rDisable;have he:=rEnable;have ha:=rAcquire;have hcas:=run_call_cas_hit (P:=prog) func217 (by kernel_rfl) (by kernel_rfl) (by kernel_rfl) .i32 (by kernel_rfl) (y:=1) hc hz;have hc':(w.setCell a (.int .i32 1)).cell? a=some (.int .i32 1):=World.cell?_setCell_same w a _ hc;have hcv:=run_convert_to_unsafe (P:=prog) (src:=320) (dst:=100) underlying320 underlying100 (by kernel_rfl) hc';go_enter func190,ntmps190
 go_wp2
 first|go_end0|(simp only[Exit.inBlock,Exit.then];refine bodyPost_ret (results_none rfl _ _ _) rfl ?_)|refine bodyPost_ret (results_none rfl _ _ _) rfl ?_
 go_wp2
 go_end0
 exact⟨rfl,rfl⟩
theorem load_zero (a:Addr) (w:World) (hc:w.cell? a=some (.int .u32 0)) :
  Calls prog 166 #[.pointer (some a)] w fun e w'=>e=.returned (.bool false)∧w' = w:=by
 have hl:=run_call_load (P:=prog) func189 (by kernel_rfl) (by kernel_rfl) (by kernel_rfl) .u32 (by kernel_rfl) hc;go_enter func166,ntmps166
 go_wp2
 go_ret;exact⟨rfl,rfl⟩
set_option maxRecDepth 100000 in theorem slow_any (b : Nat) (v1 v2 v3 : Value) (w : World) (hk : Blk w b #[.int .u32 0, .int .i32 0, v1, v2, v3]) (B : Nat) (hB : B ≤ b) (S : Value → Value → World → Prop)
  (hf:∀ w1,(∀ k,k≠b→w1.heap[k]? = w.heap[k]?)→Blk w1 b #[.int .u32 0,.int .i32 1,v1,v2,v3]→Calls prog 140 #[.pointer (some ⟨b,0,none⟩)] w1 fun e w'=>e=.returned (.tuple #[])∧Below B w1 w'∧∃ u1 u2,Blk w' b #[.int .u32 0,.int .i32 1,v1,u1,u2]∧S u1 u2 w')
  (hS:∀ u1 u2 w1 w',S u1 u2 w1→(∀ k,k≠b→w'.heap[k]? = w1.heap[k]?)→w1.heap.size≤w'.heap.size→S u1 u2 w') :
  Calls prog 167 #[.pointer (some ⟨b,0,none⟩),.func (.func 140) #[.pointer (some ⟨b,0,none⟩)] #[]] w fun e w'=>e=.returned (.tuple #[])∧Below B w w'∧∃ u1 u2,Blk w' b #[.int .u32 1,.int .i32 0,v1,u1,u2]∧S u1 u2 w':=by
 have hk1:=hk.st 1 (.int .i32 1);have c0:=hk.cell 0 _ rfl;have c1:=hk.cell 1 _ rfl;have f1:=hk.free 1;have d0:=hk1.cell 0 _ rfl;have hb1:Below B w (w.setCell ⟨b,1,none⟩ (.int .i32 1)):=(Below.refl _ _).setCell (p:=⟨b,1,none⟩) hB _;have HB1:=Qh hb1;have HK1:=Qh hk1;have HS:=Qh hS;have hnot:∀ (x:Bool) (w:World),(Op.unary .not (.bool x)).run prog w=.ok (.bool (!x)) w:=fun _ _=>rfl
 clear hk hk1 hb1 hS;go_enter_defers func167,ntmps167
 go_wp2_with (first|(go_at_call 190;refine(lock_free ⟨b,1,none⟩ _ c1 f1).mono ?_;rintro e w' ⟨rfl,rfl⟩)|(go_at_call 166;refine(load_zero ⟨b,0,none⟩ _ d0).mono ?_;rintro e w' ⟨rfl,rfl⟩)|(go_at_call 140;refine(hf _ (fun k hk=>Below.heap_setCell _ ⟨b,1,none⟩ _ k hk) HK1.out).mono ?_;rintro e w' ⟨rfl,hb2,u1,u2,hk2,hs2⟩))
 have k0:=hk2.cell 0 _ rfl;have z0:=hk2.free 0;have hk3:Blk (w'.drew.setCell ⟨b,0,none⟩ (.int .u32 1)) b #[.int .u32 1,.int .i32 1,v1,u1,u2]:=(hk2.keep (Below.refl _ _).drew lrf).st 0 _;have HK4:=Qh (hk3.st 1 (.int .i32 0));have k1:=hk3.cell 1 _ rfl;have z1:=hk3.free 1;have HB4:=Qh (show Below B w ((w'.drew.setCell ⟨b,0,none⟩ (.int .u32 1)).setCell ⟨b,1,none⟩ (.int .i32 0))from
  (((HB1.out.trans hb2).trans (Below.refl _ _).drew).setCell (p:=⟨b,0,none⟩) hB _).setCell (p:=⟨b,1,none⟩) hB _)
 have HS4:=Qh (show S u1 u2 ((w'.drew.setCell ⟨b,0,none⟩ (.int .u32 1)).setCell ⟨b,1,none⟩ (.int .i32 0))from HS.out _ _ _ _ hs2 (fun k hk=>by
  rw[Below.heap_setCell _ ⟨b,1,none⟩ _ k hk,Below.heap_setCell _ ⟨b,0,none⟩ _ k hk];rfl) (by simp[World.setCell]))
 refine leaves_cons (f:=192) (args:=#[.pointer (some ⟨b,0,none⟩),.bool true]) (by simp) (by simp[go_sem]) ?_;refine(store_deferred ⟨b,0,none⟩ _ .returning _ k0 z0).mono ?_;rintro e u' w'' ⟨rfl,rfl,rfl⟩;refine leaves_cons (f:=191) (args:=#[.pointer (some ⟨b,1,none⟩)]) (by simp[settle]) (by simp[go_sem]) ?_;refine(unlock_deferred ⟨b,1,none⟩ _ _ k1 z1).mono ?_;rintro e u' w'' ⟨rfl,rfl,rfl⟩;simp[Leaves,settle,results,results167];exact⟨HB4.out,u1,u2,HK4.out,HS4.out⟩
theorem do_first (b:Nat) (v1 v2 v3:Value) (w:World) (hk:Blk w b #[.int .u32 0,.int .i32 0,v1,v2,v3]) (B:Nat) (hB:B≤b) (S:Value→Value→World→Prop)
  (hf:∀ w1,(∀ k,k≠b→w1.heap[k]? = w.heap[k]?)→Blk w1 b #[.int .u32 0,.int .i32 1,v1,v2,v3]→Calls prog 140 #[.pointer (some ⟨b,0,none⟩)] w1 fun e w'=>e=.returned (.tuple #[])∧Below B w1 w'∧∃ u1 u2,Blk w' b #[.int .u32 0,.int .i32 1,v1,u1,u2]∧S u1 u2 w')
  (hS:∀ u1 u2 w1 w',S u1 u2 w1→(∀ k,k≠b→w'.heap[k]? = w1.heap[k]?)→w1.heap.size≤w'.heap.size→S u1 u2 w') :
  Calls prog 139 #[.pointer (some ⟨b,0,none⟩),.func (.func 140) #[.pointer (some ⟨b,0,none⟩)] #[]] w fun e w'=>e=.returned (.tuple #[])∧Below B w w'∧∃ u1 u2,Blk w' b #[.int .u32 1,.int .i32 0,v1,u1,u2]∧S u1 u2 w':=by
 have c0:=hk.cell 0 _ rfl;have HSL:=Qh (slow_any b v1 v2 v3 w hk B hB S hf hS);have hnot:∀ (x:Bool) (w:World),(Op.unary .not (.bool x)).run prog w=.ok (.bool (!x)) w:=fun _ _=>rfl
 clear hk hf hS;go_enter func139,ntmps139
 go_wp2_with (first|(go_at_call 166;refine(load_zero ⟨b,0,none⟩ _ c0).mono ?_;rintro e w' ⟨rfl,rfl⟩)|(go_at_call 167;refine HSL.out.mono ?_;rintro e w' ⟨rfl,hb2,u1,u2,hk2,hs2⟩))
 go_end0
 exact⟨rfl,hb2,u1,u2,hk2,hs2⟩
def enBs (s:ByteArray):List Value:=[.string s]
theorem bss_ty:SlTy prog 32 9 1 16:=SlTy.mk' (.string ⟨#[]⟩) underlying32 (by kernel_rfl) rfl (by decide) (by decide)
def escT:List ByteArray:=[⟨#[92]⟩,⟨#[92,92]⟩,⟨#[34]⟩,⟨#[92,34]⟩]
def zeroB:Array Value:=⟨List.replicate 257 (.slice none 0 0)⟩
theorem zeroB_info:(prog.info? 294).map (fun i=>(i.zero,i.size))=some (some (.agg zeroB),257):=by kernel_rfl
theorem zeroB_run (w:World):(zeroValue 294).run prog w=.ok (.agg zeroB) w:=(zero_of_info zeroB_info).1 w
theorem zeroB_size:zeroB.size=257:=by unfold zeroB;rw[List.size_toArray,List.length_replicate]
theorem zeroB_get (c:Nat) (h:c < 257):zeroB[c]? = some (.slice none 0 0):=by
 unfold zeroB;rw[List.getElem?_toArray,List.getElem?_replicate,if_pos h]
theorem store_B (x:Value) (hx:x.oneCell' = true) (w:World):(storeCells ⟨w.heap.size,0,none⟩ (zeroB.toList.set 256 x)).run prog (w.alloc (.cells zeroB 294))=.ok () (w.alloc (.cells (zeroB.setIfInBounds 256 x) 294)):=by
 have h:=run_storeCells_new (P:=prog) w 294 zeroB (zeroB.setIfInBounds 256 x) (by rw[Array.size_setIfInBounds,zeroB_size];exact(zero_of_info zeroB_info).2) (by rw[Array.size_setIfInBounds]) (by
  rw[Array.all_eq_true];intro i hi;rw[Array.size_setIfInBounds]at hi;rw[Array.getElem_setIfInBounds hi];split
  ·exact hx
  ·have h2:=zeroB_get i (by rw[← zeroB_size];exact hi);rw[Array.getElem?_eq_getElem hi]at h2;rw[Option.some.inj h2];rfl)
 rw[Array.toList_setIfInBounds]at h;exact h
theorem conv_c (c:UInt8) (W:World):(convert 172 9 (.slice (some ⟨W.heap.size,0,none⟩) 1 1)).run prog (W.alloc (.cells #[.int .u8 (c.toNat:Int)] 5))=.ok (.string ⟨#[c]⟩) (W.alloc (.cells #[.int .u8 (c.toNat:Int)] 5)):=
 run_convert_bytes_back _ 172 9 5 ⟨W.heap.size,0,none⟩ 1 [c] underlying172 underlying5 underlying9 fun j hj=>by
  obtain rfl:j=0:=by simpa using hj
  rw[Addr.add_lit];simp
theorem conv_s (l:List UInt8) (hl:l.length≤maxLen) (W:World):∃ k W',(convert 9 172 (.string ⟨l.toArray⟩)).run prog W=.ok (.slice (some ⟨W.heap.size,0,none⟩) l.length k) W'∧Below W.heap.size W W'∧SlOf W' enByte 1 (some ⟨W.heap.size,0,none⟩) k l:=by
 have h:=run_bytes_of_string (P:=prog) W 9 172 5 ⟨l.toArray⟩ underlying9 underlying172 underlying5;refine⟨_,_,h,((Below.refl _ _).drew).alloc lrf _,?_⟩;have hge:=grownCap_ge W l.length 0 5;have hle:=grownCap_le_maxLen W l.length 0 5 hl;refine⟨flatMap_length enByte_len l,hge,hle,(fun e=>by cases e),fun j hj=>⟨W.heap.size,0,rfl,?_⟩⟩;rw[flatMap_length enByte_len,Nat.mul_one]at hj;have h2:=World.cell?_alloc_mark W.drew (bytesRow ⟨l.toArray⟩ (grownCap W l.length 0 5)) 5 ((bytesRow ⟨l.toArray⟩ (grownCap W l.length 0 5)).size,(bytesRow ⟨l.toArray⟩ (grownCap W l.length 0 5)).size+1) (0+j);have h3:=bytesRow_at ⟨l.toArray⟩ (grownCap W l.length 0 5) j (by simpa using hj);rw[Nat.zero_add]at h2 ⊢;rw[h3]at h2;refine Eq.trans h2 ?_;have h4:=flatMap_get enByte_len l j hj 0 (by decide);rw[Nat.mul_one,Nat.add_zero]at h4;rw[h4];rfl
theorem Owns.setOtherR {α:Type} {w:World} {base:Nat} {e:TypeId} {size:Nat} {en:α→List Value} {v:Value} {xs:List α} (h:Owns w base e size en v xs) {p:Addr} (hp:∀ k,v.ownBlock=some k→p.block≠k) (u:Value):Owns (w.setCell p u) base e size en v xs:=by
 refine⟨h.1,?_⟩;rcases h.2 with h0|⟨g,cap,cur,hv,h1,h2,h3⟩
 ·exact .inl h0
 ·refine .inr ⟨g,cap,cur,hv,h1,?_,h3⟩;rw[Below.heap_setCell w p u g (Ne.symm (hp g (by rw[hv];rfl)))];exact h2
structure RepAt (w:World) (base B:Nat):Prop where
 lo:base≤B
 nil:∀ c,c < 256→c≠34→c≠92→w.cell? ⟨B,c,none⟩=some (.slice none 0 0)
 q:∃ g k,base≤g∧w.cell? ⟨B,34,none⟩=some (.slice (some ⟨g,0,none⟩) 2 k)∧SlOf w enByte 1 (some ⟨g,0,none⟩) k [92,34]
 s:∃ g k,base≤g∧w.cell? ⟨B,92,none⟩=some (.slice (some ⟨g,0,none⟩) 2 k)∧SlOf w enByte 1 (some ⟨g,0,none⟩) k [92,92]
 t:∃ g k,base≤g∧w.cell? ⟨B,256,none⟩=some (.slice (some ⟨g,0,none⟩) 2 k)∧SlOf w enBs 1 (some ⟨g,0,none⟩) k [⟨#[34]⟩,⟨#[92]⟩]
theorem RepAt.of_heap {w w':World} {base B:Nat} (h:RepAt w base B) (hh:∀ k,base≤k→k < w.heap.size→w'.heap[k]? = w.heap[k]?):RepAt w' base B:=by
 have hB:B < w.heap.size:=World.block_lt_of_cell? w _ (h.nil 0 (by decide) (by decide) (by decide));have hc:∀ c,w'.cell? ⟨B,c,none⟩=w.cell? ⟨B,c,none⟩:=fun c=>World.cell?_of_block (hh B h.lo hB)
 have hs:∀ {α:Type} {en:α→List Value} {g k:Nat} {xs:List α},base≤g→(∃ x,w.cell? ⟨g,0,none⟩=some x)→SlOf w en 1 (some ⟨g,0,none⟩) k xs→SlOf w' en 1 (some ⟨g,0,none⟩) k xs:=fun hg hx h=>h.of_block fun b o e=>by
  obtain⟨x,hx⟩:=hx;cases e
  exact hh _ hg (World.block_lt_of_cell? w _ hx)
 refine⟨h.lo,fun c h1 h2 h3=>by rw[hc];exact h.nil c h1 h2 h3,?_,?_,?_⟩
 ·obtain⟨g,k,h1,h2,h3⟩:=h.q;obtain⟨b,o,e,_,h4⟩:=SlOf.cell1 h3 (fun x:UInt8=>.int .u8 (x.toNat:Int)) (fun _=>rfl) (k:=0) (by decide);cases e
  exact⟨g,k,h1,by rw[hc];exact h2,hs h1 ⟨_,h4⟩ h3⟩
 ·obtain⟨g,k,h1,h2,h3⟩:=h.s;obtain⟨b,o,e,_,h4⟩:=SlOf.cell1 h3 (fun x:UInt8=>.int .u8 (x.toNat:Int)) (fun _=>rfl) (k:=0) (by decide);cases e
  exact⟨g,k,h1,by rw[hc];exact h2,hs h1 ⟨_,h4⟩ h3⟩
 ·obtain⟨g,k,h1,h2,h3⟩:=h.t;obtain⟨b,o,e,_,h4⟩:=SlOf.cell1 h3 (fun x:ByteArray=>.string x) (fun _=>rfl) (k:=0) (by decide);cases e
  exact⟨g,k,h1,by rw[hc];exact h2,hs h1 ⟨_,h4⟩ h3⟩
theorem RepAt.lower {w:World} {base b B:Nat} (h:RepAt w base B) (hb:b≤base):RepAt w b B:=by
 obtain⟨g1,k1,a1,b1,c1⟩:=h.q;obtain⟨g2,k2,a2,b2,c2⟩:=h.s;obtain⟨g3,k3,a3,b3,c3⟩:=h.t;exact⟨Nat.le_trans hb h.lo,h.nil,⟨g1,k1,by omega,b1,c1⟩,⟨g2,k2,by omega,b2,c2⟩,⟨g3,k3,by omega,b3,c3⟩⟩
theorem RepAt.keep {w w':World} {base B:Nat} (h:RepAt w base B) (hb:Below w.heap.size w w'):RepAt w' base B:=h.of_heap fun k _ hk=>hb.block k hk
set_option maxRecDepth 100000 in theorem build_any (r g k : Nat) (w : World) (hc : w.cell? ⟨r, 4, none⟩ = some (.slice (some ⟨g, 0, none⟩) 4 k)) (hs : SlOf w enBs 1 (some ⟨g, 0, none⟩) k escT) :
  Calls prog 168 #[.pointer (some ⟨r,0,none⟩)] w fun e w'=>∃ B,e=.returned (.iface 295 (.pointer (some ⟨B,0,none⟩)))∧Below w.heap.size w w'∧RepAt w' w.heap.size B:=by
 obtain⟨b0,o0,e0,hb0,s0⟩:=SlOf.cell1 hs (fun x:ByteArray=>.string x) (fun _=>rfl) (k:=0) (by decide);obtain⟨b1,o1,e1,hb1,s1⟩:=SlOf.cell1 hs (fun x:ByteArray=>.string x) (fun _=>rfl) (k:=1) (by decide);obtain⟨b2,o2,e2,hb2,s2⟩:=SlOf.cell1 hs (fun x:ByteArray=>.string x) (fun _=>rfl) (k:=2) (by decide);obtain⟨b3,o3,e3,hb3,s3⟩:=SlOf.cell1 hs (fun x:ByteArray=>.string x) (fun _=>rfl) (k:=3) (by decide);cases e0;cases e1;cases e2;cases e3
 replace s0:w.cell? ⟨g,0,none⟩=some (.string ⟨#[92]⟩):=s0;replace s1:w.cell? ⟨g,1,none⟩=some (.string ⟨#[92,92]⟩):=(by simpa [escT]using s1);replace s2:w.cell? ⟨g,2,none⟩=some (.string ⟨#[34]⟩):=(by simpa [escT]using s2);replace s3:w.cell? ⟨g,3,none⟩=some (.string ⟨#[92,34]⟩):=(by simpa [escT]using s3);have hsl:=Qh hs;have hk:=hs.le;clear hs hb1 hb2 hb3;obtain⟨i0,hi,hz0,hz1,hz2⟩:=info_parts (P:=prog) (e:=9) (z:=.string ⟨#[]⟩) (size:=1) (bytes:=16) (by kernel_rfl);have hzr:=zeroB_run;have hst:=fun (g:Nat)=>store_B (.slice (some ⟨g,0,none⟩) 0 2) rfl
 have hCs:∀ g:Nat,(zeroB.setIfInBounds 256 (.slice (some ⟨g,0,none⟩) 0 2)).size=257:=fun g=>by rw[Array.size_setIfInBounds];exact zeroB_size
 have hCt:∀ g:Nat,(zeroB.setIfInBounds 256 (.slice (some ⟨g,0,none⟩) 0 2))[256]? = some (.slice (some ⟨g,0,none⟩) 0 2):=fun g=>by simp[zeroB_size]
 have hCn:∀ (g:Nat) (c:Nat),c < 256→(zeroB.setIfInBounds 256 (.slice (some ⟨g,0,none⟩) 0 2))[c]? = some (.slice none 0 0):=fun g c hc=>by
  rw[Array.getElem?_setIfInBounds_ne (by omega)];exact zeroB_get c (by omega)
 obtain⟨C,hC⟩:∃ C:Nat→Array Value,∀ g,C g=zeroB.setIfInBounds 256 (.slice (some ⟨g,0,none⟩) 0 2):=⟨_,fun _=>rfl⟩
 have hZs:=zeroB_size;simp only[← hC]at hst hCs hCt hCn;clear hC;generalize zeroB=Z at *;have HCn:=Qh hCn;have HCt:=Qh hCt;have HCs:=Qh hCs;clear hCn hCt hCs;go_enter func168,ntmps168
 go_wp2_with fail;refine wp_loop_rounds 3 ?_;rw[rounds_succ];go_wp2_with fail;rw[rounds_succ];go_wp2_with fail;rw[rounds_succ];go_wp2_with (at_make;refine wpList_make_own _ rfl _ _ 32 rfl w.heap.size 9 i0 _ 1 underlying32 hi hz0 hz1 .i64 .i64 _ 2 rfl rfl rfl (by rw[hz2];omega) (by unfold maxLen;omega) lrf ?_;intro w1 hown hgrow)
 have hb1:Below w.heap.size w w1:=Below.ofGrown hgrow;have ho1:Owns w1 w.heap.size 9 1 enBs (.slice (some ⟨w.heap.size,0,none⟩) 0 2) []:=hown;have htlt:w.heap.size < w1.heap.size:=(ho1.lt w.heap.size rfl).2;have HB2:=Qh (hb1.alloc hb1.size (.cells (C w.heap.size) 294));have HO2:=Qh (ho1.alloc (.cells (C w.heap.size) 294));have HK2:=Qh (Blk.new w1 (C w.heap.size) 294);have hz2':(w1.alloc (.cells (C w.heap.size) 294)).heap.size=w1.heap.size+1:=(by simp);clear hown hgrow hb1 ho1 hst hzr hZs hi hz0 hz1 hz2;generalize w1.alloc (.cells (C w.heap.size) 294)=W1 at *;obtain⟨B,hB⟩:∃ B,B=w1.heap.size:=⟨_,rfl⟩
 rw[← hB]at HK2 htlt hz2' ⊢;clear hB;obtain⟨t,ht⟩:∃ t,t=w.heap.size:=⟨_,rfl⟩
 have HT:=Qh ht;have HC1:=Qh (HCn.out w.heap.size);have HC2:=Qh (HCt.out w.heap.size);have HC3:=Qh (HCs.out w.heap.size);clear ht HCn HCt HCs;generalize C w.heap.size=C0 at *;have d2:=cell_keep s2 HB2.out hb0;have d3:=cell_keep s3 HB2.out hb0;have b34:=HK2.out.cell 34 _ (HC1.out 34 (by decide));have b256:=HK2.out.cell 256 _ HC2.out;have f256:=HK2.out.free 256;have hBs:B < W1.heap.size:=(by omega);clear hz2';have hcv:∀ W:World,(convert 172 9 (.slice (some ⟨W.heap.size,0,none⟩) 1 1)).run prog (W.alloc (.cells #[.int .u8 34] 5))=.ok (.string ⟨#[34]⟩) (W.alloc (.cells #[.int .u8 34] 5)):=conv_c 34;have hen:∀ w:World,(binOp .eql 172 (.slice none 0 0) (.slice none 0 0)).run prog w=.ok (.bool true) w:=fun w=>by kernel_rfl
 have hg34:∀ h,(⟨#[34]⟩:ByteArray)[0]'h=34:=fun _=>rfl
 refine wp_loop_rounds 3 ?_;rw[rounds_succ];go_wp2_with (at_builtin;go_loud (refine wpList_append_elem3 bss_ty [] ⟨#[34]⟩ (HO2.out.alloc _) (HB2.out.alloc HB2.out.size _) lrf (by simp) ?_ (hx:=by rw[World.size_alloc];rfl) (hone:=by simp[enBs,Value.oneCell'])))
 intro v9 w9 ho9 hb9 hg9 hv9;obtain⟨a9,c9,rfl,-⟩:=ho9.shape;simp only[List.length_cons,List.length_nil,Nat.zero_add]at ho9 hv9;have hv9':∀ k,(Value.slice a9 1 c9).ownBlock=some k→k≠B:=fun k hk=>by
  rcases hv9 k hk with h|h
  ·have:w.heap.size=k:=by simpa [Value.ownBlock]using h
   omega
  ·first|omega|(rw[World.size_alloc]at h;omega)
 have hk9:Blk w9 B C0:=(HK2.out.alloc (.cells #[.int .u8 34] 5)).same (hg9.block B (by simp;omega) (by simp[Value.ownBlock];omega));have HK10:=Qh (hk9.st 256 (.slice a9 1 c9));have HO10:=Qh (ho9.setOtherR (p:=⟨B,256,none⟩) (fun k hk=>Ne.symm (hv9' k hk)) (.slice a9 1 c9));have HB10:=Qh (hb9.setCell (p:=⟨B,256,none⟩) (by show w.heap.size≤B;omega) (.slice a9 1 c9));have m256:=hk9.cell 256 _ HC2.out;have mf256:=hk9.free 256;have hB9:B < w9.heap.size:=hk9.lt;obtain⟨k1,W11,hcv1,hb11,hs11⟩:=conv_s [92,34] (by decide) (w9.setCell ⟨B,256,none⟩ (.slice a9 1 c9));have HE:=Qh (show(w9.setCell ⟨B,256,none⟩ (.slice a9 1 c9)).heap.size=w9.heap.size from by simp[World.setCell]);have HB11:=Qh (bstep HB10.out hb11 lrf);have hk11:=HK10.out.keep hb11 lrf;have HO11:=Qh (HO10.out.keep hb11 lrf);have hsz11:=hb11.size;rw[HE.out]at hcv1 hs11 hsz11;have n34:W11.cell? ⟨B,34,none⟩=some (.slice none 0 0):=hk11.cell 34 _ (by rw[Array.getElem?_setIfInBounds_ne (by decide)];exact HC1.out 34 (by decide));have nf34:=hk11.free 34;have HS11:=Qh hs11;have HK11:=Qh hk11;have HV9:=Qh hv9';have HVL:=Qh (fun k hk=>(ho9.lt k hk).2:∀ k,(Value.slice a9 1 c9).ownBlock=some k→k < w9.heap.size);have HC1':=Qh hcv1;clear hcv1;have hcv1:(convert 9 172 (.string ⟨#[92,34]⟩)).run prog (w9.setCell ⟨B,256,none⟩ (.slice a9 1 c9))=.ok (.slice (some ⟨w9.heap.size,0,none⟩) 2 k1) W11:=HC1'.out;clear HC1' hv9 hg9 ho9 hb9 hs11 hk11 hk9 hv9' hb11 hcv b34 b256 f256 d2 d3 HK10 HO10 HB10 HO2 HB2 HK2;go_wp2_with fail;have HK12:=Qh (HK11.out.st 34 (.slice (some ⟨w9.heap.size,0,none⟩) 2 k1));have HO12:=Qh (HO11.out.setOtherR (p:=⟨B,34,none⟩) (fun k hk=>Ne.symm (HV9.out k hk)) (.slice (some ⟨w9.heap.size,0,none⟩) 2 k1));have HB12:=Qh (HB11.out.setCell (p:=⟨B,34,none⟩) (by show w.heap.size≤B;omega) (.slice (some ⟨w9.heap.size,0,none⟩) 2 k1));have HS12:=Qh (HS11.out.setCell (p:=⟨B,34,none⟩) (by show B≠w9.heap.size;omega) (.slice (some ⟨w9.heap.size,0,none⟩) 2 k1));generalize W11.setCell ⟨B,34,none⟩ (.slice (some ⟨w9.heap.size,0,none⟩) 2 k1)=W2 at *;have HW9:=Qh (show w.heap.size≤w9.heap.size by omega);obtain⟨p1,hp1⟩:∃ p1,p1=w9.heap.size:=⟨_,rfl⟩
 rw[← hp1]at HK12 HS12 HW9 hB9 HVL;have HP1:=Qh hB9;clear HK11 HO11 HB11 HS11 HE m256 mf256 hcv1 n34 nf34 hsz11 hp1 hB9 hen hBs;have d0:=cell_keep s0 HB12.out hb0;have d1:=cell_keep s1 HB12.out hb0;have b92:=HK12.out.cell 92 (.slice none 0 0) (by rw[Array.getElem?_setIfInBounds_ne (by decide),Array.getElem?_setIfInBounds_ne (by decide)];exact HC1.out 92 (by decide));have b256:=HK12.out.cell 256 (.slice a9 1 c9) (by rw[Array.getElem?_setIfInBounds_ne (by decide)];simp[HC3.out]);have f256:=HK12.out.free 256;have hBs:=HK12.out.lt;have hen:∀ w:World,(binOp .eql 172 (.slice none 0 0) (.slice none 0 0)).run prog w=.ok (.bool true) w:=fun w=>by kernel_rfl
 have hcv:∀ W:World,(convert 172 9 (.slice (some ⟨W.heap.size,0,none⟩) 1 1)).run prog (W.alloc (.cells #[.int .u8 92] 5))=.ok (.string ⟨#[92]⟩) (W.alloc (.cells #[.int .u8 92] 5)):=conv_c 92;have hg92:∀ h,(⟨#[92]⟩:ByteArray)[0]'h=92:=fun _=>rfl
 rw[rounds_succ];go_wp2_with (at_builtin;go_loud (refine wpList_append_elem3 (en:=enBs) bss_ty [⟨#[34]⟩] ⟨#[92]⟩ (HO12.out.alloc _) (HB12.out.alloc HB12.out.size _) lrf (by simp) ?_ (hx:=by rw[World.size_alloc];rfl) (hone:=by simp[enBs,Value.oneCell'])))
 intro v13 w13 ho13 hb13 hg13 hv13;obtain⟨a13,c13,rfl,-⟩:=ho13.shape;simp only[List.length_cons,List.length_nil,Nat.zero_add]at ho13 hv13;have hv13':∀ k,(Value.slice a13 2 c13).ownBlock=some k→k≠B:=fun k hk=>by
  rcases hv13 k hk with h|h
  ·exact HV9.out k h
  ·first|omega|(rw[World.size_alloc]at h;omega)
 have hk13:Blk w13 B _:=(HK12.out.alloc (.cells #[.int .u8 92] 5)).same (hg13.block B (by simp;omega) (fun e=>HV9.out B e.symm rfl));have hs13:SlOf w13 enByte 1 (some ⟨p1,0,none⟩) k1 [92,34]:=(HS12.out.alloc (.cells #[.int .u8 92] 5)).of_block (fun b o e=>by
  cases e
  refine hg13.block p1 ?_ (fun e=>absurd (HVL.out p1 e.symm) (Nat.lt_irrefl _));obtain⟨b,o,e,h4,_⟩:=SlOf.cell1 HS12.out (fun x:UInt8=>.int .u8 (x.toNat:Int)) (fun _=>rfl) (k:=0) (by decide);cases e
  simp;omega)
 have HK14:=Qh (hk13.st 256 (.slice a13 2 c13));have HO14:=Qh (ho13.setOtherR (p:=⟨B,256,none⟩) (fun k hk=>Ne.symm (hv13' k hk)) (.slice a13 2 c13));have HB14:=Qh (hb13.setCell (p:=⟨B,256,none⟩) (by show w.heap.size≤B;omega) (.slice a13 2 c13));have HS14:=Qh (hs13.setCell (p:=⟨B,256,none⟩) (by show B≠p1;have:=HP1.out;omega) (.slice a13 2 c13));have m256:=hk13.cell 256 (.slice a9 1 c9) (by rw[Array.getElem?_setIfInBounds_ne (by decide)];simp[HC3.out]);have mf256:=hk13.free 256;have hB13:B < w13.heap.size:=hk13.lt;obtain⟨k2,W15,hcv2,hb15,hs15⟩:=conv_s [92,92] (by decide) (w13.setCell ⟨B,256,none⟩ (.slice a13 2 c13));have HE:=Qh (show(w13.setCell ⟨B,256,none⟩ (.slice a13 2 c13)).heap.size=w13.heap.size from by simp[World.setCell]);have HB15:=Qh (bstep HB14.out hb15 lrf);have hk15:=HK14.out.keep hb15 lrf;have HO15:=Qh (HO14.out.keep hb15 lrf);have HS15:=Qh (HS14.out.keep hb15 lrf);have hsz15:=hb15.size;rw[HE.out]at hcv2 hs15 hsz15;have n92:W15.cell? ⟨B,92,none⟩=some (.slice none 0 0):=hk15.cell 92 _ (by rw[Array.getElem?_setIfInBounds_ne (by decide),Array.getElem?_setIfInBounds_ne (by decide),Array.getElem?_setIfInBounds_ne (by decide)];exact HC1.out 92 (by decide));have nf92:=hk15.free 92;have HT15:=Qh hs15;have HK15:=Qh hk15;have HV13:=Qh hv13';have HC1':=Qh hcv2;clear hcv2;have hcv2:(convert 9 172 (.string ⟨#[92,92]⟩)).run prog (w13.setCell ⟨B,256,none⟩ (.slice a13 2 c13))=.ok (.slice (some ⟨w13.heap.size,0,none⟩) 2 k2) W15:=HC1'.out;clear HC1' hv13 hg13 ho13 hb13 hs15 hk15 hk13 hs13 hv13' hb15 hcv b92 b256 f256 d0 d1 HK14 HO14 HB14 HS14 HO12 HB12 HK12 HS12;go_wp2_with fail;rw[rounds_succ];go_wp2_with fail;go_ret;have hK:=HK15.out.st 92 (.slice (some ⟨w13.heap.size,0,none⟩) 2 k2);have hB':w.heap.size≤B:=(by omega);refine⟨B,rfl,HB15.out.setCell (p:=⟨B,92,none⟩) hB' _,⟨hB',fun c h1 h2 h3=>?_,?_,?_,?_⟩⟩
 ·refine hK.cell c _ ?_;rw[Array.getElem?_setIfInBounds_ne (Ne.symm h3),Array.getElem?_setIfInBounds_ne (by omega),Array.getElem?_setIfInBounds_ne (Ne.symm h2),Array.getElem?_setIfInBounds_ne (by omega)];exact HC1.out c h1
 ·refine⟨p1,k1,HW9.out,hK.cell 34 _ ?_,HS15.out.setCell (p:=⟨B,92,none⟩) (by show B≠p1;have:=HP1.out;omega) _⟩;rw[Array.getElem?_setIfInBounds_ne (by decide),Array.getElem?_setIfInBounds_ne (by decide)];simp[HC3.out]
 ·refine⟨w13.heap.size,k2,by omega,hK.cell 92 _ ?_,HT15.out.setCell (p:=⟨B,92,none⟩) (by show B≠w13.heap.size;omega) _⟩;simp[HC3.out]
 ·obtain⟨g13,cap13,hv13,hg1,hg2,-⟩:=HO15.out.block (by decide);cases hv13
  have hne:(⟨B,92,none⟩:Addr).block≠g13:=fun e=>HV13.out g13 rfl e.symm
  exact⟨g13,_,hg1,hK.cell 256 _ (by rw[Array.getElem?_setIfInBounds_ne (by decide)];simp[HC3.out]),HO15.out.sl.2.setCell hne _⟩
def repV (B:Nat):Value:=.iface 295 (.pointer (some ⟨B,0,none⟩))
set_option maxRecDepth 100000 in theorem buildOnce_any (r g k : Nat) (x0 x1 x2 x3 : Value) (base : Nat) (hr : base ≤ r) (w : World) (hk : Blk w r #[x0, x1, x2, x3, .slice (some ⟨g, 0, none⟩) 4 k]) (hs : SlOf w enBs 1 (some ⟨g, 0, none⟩) k escT) :
  Calls prog 140 #[.pointer (some ⟨r,0,none⟩)] w fun e w'=>e=.returned (.tuple #[])∧Below base w w'∧∃ B,Blk w' r #[x0,x1,x2,repV B,.slice none 0 0]∧RepAt w' (r+1) B:=by
 have hc:=hk.cell 4 _ rfl;have cb:=build_any r g k w hc hs;have hrl:=hk.lt;have HK:=Qh hk;clear hk hs;unfold repV;go_enter func140,ntmps140
 go_wp2_with fail;(with_reducible refine cb.mono ?_);rintro e w1 ⟨B,rfl,hb,hrep⟩;have hk1:=HK.out.keep hb lrf;have c3:=hk1.cell 3 _ rfl;have c4:=hk1.cell 4 _ rfl;have f3:=hk1.free 3;have f4:=hk1.free 4;have hk2:=hk1.st 3 (.iface 295 (.pointer (some ⟨B,0,none⟩)));have HK3:=Qh (hk2.st 4 (.slice none 0 0));have HB:=Qh (((hb.mono (by omega)).setCell (p:=⟨r,3,none⟩) hr (.iface 295 (.pointer (some ⟨B,0,none⟩)))).setCell (p:=⟨r,4,none⟩) hr (.slice none 0 0):Below base w _);have hrep1:RepAt w1 (r+1) B:=hrep.lower (by omega);have HR:=Qh (show RepAt ((w1.setCell ⟨r,3,none⟩ (.iface 295 (.pointer (some ⟨B,0,none⟩)))).setCell ⟨r,4,none⟩ (.slice none 0 0)) (r+1) B from
  hrep1.of_heap fun k hk _=>by rw[Below.heap_setCell _ ⟨r,4,none⟩ _ k (by show k≠r;omega),Below.heap_setCell _ ⟨r,3,none⟩ _ k (by show k≠r;omega)])
 clear hk1 hk2 hrep hrep1 cb hb hc;go_wp2_with fail;go_end0
 exact⟨rfl,HB.out,B,HK3.out,HR.out⟩
set_option maxRecDepth 100000 in theorem newReplacer_any (g n k : Nat) (hn : n = 4) (w : World) (hs : SlOf w enBs 1 (some ⟨g, 0, none⟩) k escT) :
  Calls prog 108 #[.slice (some ⟨g,0,none⟩) n k] w fun e w'=>∃ r g' k',e=.returned (.pointer (some ⟨r,0,none⟩))∧Below w.heap.size w w'∧w.heap.size≤r ∧
   Blk w' r #[.int .u32 0,.int .i32 0,.int .u32 0,.nilIface,.slice (some ⟨g',0,none⟩) 4 k']∧SlOf w' enBs 1 (some ⟨g',0,none⟩) k' escT∧g'≠r:=by
 subst hn;obtain⟨i0,hi,hz0,hz1,hz2⟩:=info_parts (P:=prog) (e:=9) (z:=.string ⟨#[]⟩) (size:=1) (bytes:=16) (by kernel_rfl);have hcell:∀ j u,(escT.flatMap enBs)[j]? = some u→w.cell? ((⟨g,0,none⟩:Addr).add j)=some u:=fun j u hu=>by
  have hj:j < (escT.flatMap enBs).length:=(List.getElem?_eq_some_iff.1 hu).1;obtain⟨b,o,e,h1⟩:=hs.at' j hj;cases e
  rw[Addr.add_lit,h1];exact hu
 have HC:=Qh hcell;clear hcell hs;go_enter func108,ntmps108
 go_wp2_with (at_builtin;refine wpList_append_own _ rfl _ _ 32 rfl w.heap.size 9 i0 (.string ⟨#[]⟩) 1 16 underlying32 hi hz0 hz1 hz2 rfl (by decide) (.slice none 0 0) 0 [] rfl (World.ownsRow_nil w w.heap.size 9 1) ⟨g,0,none⟩ 4 k (escT.flatMap enBs) rfl rfl HC.out (by simp[escT,enBs,Value.oneCell']) (by decide) (by decide) lrf ?_)
 intro v1 w1 hown hgrow _;have ho:Owns w1 w.heap.size 9 1 enBs v1 escT:=hown;have hb:Below w.heap.size w w1:=Below.ofGrown hgrow;obtain⟨g',k',rfl,hg1,hg2,-⟩:=ho.block (by decide);have hsl:=Qh ho.sl.2;have HB:=Qh hb;have hr:=hb.size;clear hown hgrow ho hi hz0 hz1 hz2 hb;have HK:=Qh (Blk.new w1 #[.int .u32 0,.int .i32 0,.int .u32 0,.nilIface,.slice (some ⟨g',0,none⟩) 4 k'] 232);have HS:=Qh (SlOf.alloc hsl.out (.cells #[.int .u32 0,.int .i32 0,.int .u32 0,.nilIface,.slice (some ⟨g',0,none⟩) 4 k'] 232));go_wp2_with fail;go_ret;exact⟨w1.heap.size,g',k',rfl,HB.out.alloc hr _,hr,HK.out,HS.out,by omega⟩
end Go.Proofs.YtkblpaabknjckaaGreatDoor
