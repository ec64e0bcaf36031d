/-
  The reference's reader: rows of a table, comments: contracts.
-/
import Derived.Test.YtlacjhjckkablaaGreatDoorBaseD
import Derived.Test.YtlacjhjckkablaaGreatDoorRedE
import Derived.Test.YtlacjhjckkablaaGreatDoorParF
import Derived.Test.YtlacjhjckkablaaGreatDoorPrsK
import Derived.Test.YtlacjhjckkablaaGreatDoorPrsJ
import Derived.Test.YtlacjhjckkablaaGreatDoorCalm
set_option maxHeartbeats 128000000
set_option linter.unusedVariables false
namespace Go.Proofs.YtlacjhjckkablaaGreatDoor
open Go.Proofs.Tryz
open Go.RowKit
set_option maxRecDepth 100000 in theorem red_order (T : List TokD) (hTs : TsW T) (st : RSt) (kr : Nat) (w : World) (h : RAt w kr T st) :
  Calls prog 137 #[.pointer (some ⟨kr,0,none⟩)] w fun e w'=>RPst kr w T (.tuple #[.bool ((st.run [] orderR).1[1]? == some 48),.bool ((st.run [] orderR).1[2]? == some 45)]) (st.run [] orderR).2 e w':=by
 have hpos:=hTs.b.1.pos;have hlen:=hTs.b.2.2;have cf:=fun W hW=>red_form T hTs st kr W hW
 obtain⟨R,hR⟩:∃ R,R=st.run [] orderR:=⟨_,rfl⟩
 rw[← hR];have HR:=Qh h;have hf0:=tk_f0;have hf1:=tk_f1;cases st with
 | bad no l c=>
  have HV:=Qh (show R=([],.bad no l c)from hR);obtain⟨h0,i,hi,hr⟩:=h;have cn:=red_now T hpos hlen i no l c kr w hi hr;unfold tkV enTok at cn;generalize hdT T i=t at *;have e0:=bN h0;have HRI:=Qh hr;clear hR hr;go_enter func137,ntmps137
  go_wp2_with fail;(with_reducible refine cn.mono ?_);rintro e w1 ⟨rfl,hb⟩;have HO:=Qh (Only.of_below kr hb);obtain⟨v,hc⟩:=(HRI.out.keep hb).cells;have f2:=hc.cell 2 (.int .i64 no) rfl;have cF:=cf w1 (HR.out.keep hb);clear cn hb hc cf;go_wp2_with fail;(with_reducible refine cF.mono ?_);rintro e w2 ⟨rfl,ho,hq⟩;have HO2:=Qh (HO.out.trans ho);have HQ:=Qh hq;clear cF ho hq;go_wp2_with fail;go_ret2
  rw[HV.out];exact⟨rfl,HO2.out,HQ.out⟩
 | ok ts=>
  obtain⟨i,hi,rfl,hr⟩:=h;have cn:=fun W hW=>red_now T hpos hlen i 0 0 0 kr W (Nat.le_of_lt hi) hW
  rw[hdT_ok hi]at cn;unfold tkV enTok at cn;have HRI:=Qh hr;have cN:=cn w hr;clear hr;by_cases hk:(headT (T.drop i)).kind=4;case neg=>
   have HV:=Qh (show R=([],(RSt.ok (T.drop i)).form)by
    rw[hR];unfold RSt.run orderR;simp only;rw[if_neg (fun h=>hk h.1)];rfl)
   have e0:=bN hk;clear hR;go_enter func137,ntmps137
   go_wp2_with fail;(with_reducible refine cN.mono ?_);rintro e w1 ⟨rfl,hb⟩;have HO:=Qh (Only.of_below kr hb);have HR1:=Qh (HRI.out.keep hb);obtain⟨v,hc⟩:=HR1.out.cells;have f2:=hc.cell 2 (.int .i64 0) rfl;have cN1:=cn w1 HR1.out;generalize (headT (T.drop i)).kind=K at *;clear cN hb cn hc;go_wp2_with fail;(with_reducible refine cN1.mono ?_);rintro e w2 ⟨rfl,hb⟩;have HO2:=Qh (HO.out.trans (Only.of_below kr hb));have cF:=cf w2 ((HR1.out.keep hb).of_ok hi);clear cN1 hb cf f2;go_wp2_with fail;(with_reducible refine cF.mono ?_);rintro e w3 ⟨rfl,ho,hq⟩;have HO3:=Qh (HO2.out.trans ho);have HQ:=Qh hq;clear cF ho hq;go_wp2_with fail;go_ret2
   rw[HV.out];exact⟨rfl,HO3.out,HQ.out⟩
  case pos=>
   have hRv:R=if (headT (T.drop i)).text.length=3 then ((headT (T.drop i)).text,.ok (T.drop i).tail) else ([],(RSt.ok (T.drop i)).form):=by
    rw[hR];unfold RSt.run orderR;simp only;by_cases h3:(headT (T.drop i)).text.length=3
    ·rw[if_pos ⟨hk,h3⟩,if_pos h3]
    ·rw[if_neg (fun h=>h3 h.2),if_neg h3];rfl
   have HRV:=Qh hRv;have HST:=Qh (fun W (hW:RAtI W kr T i 0 0 0)=>hW.step hTs hi (by rw[hk];decide));clear hR hRv;rw[hk]at cN cn;generalize (headT (T.drop i)).text=X at *;go_enter func137,ntmps137
   go_wp2_with fail;(with_reducible refine cN.mono ?_);rintro e w1 ⟨rfl,hb⟩;have HO:=Qh (Only.of_below kr hb);have HR1:=Qh (HRI.out.keep hb);obtain⟨v,hc⟩:=HR1.out.cells;have f2:=hc.cell 2 (.int .i64 0) rfl;have cN1:=cn w1 HR1.out;clear cN hb cn hc hk;by_cases h3:X.length=3
   ·have HV:=Qh (show R=(X,.ok (T.drop i).tail)by rw[HRV.out,if_pos h3]);obtain⟨q0,q1,q2,rfl⟩:∃ q0 q1 q2:UInt8,X=[q0,q1,q2]:=len3 h3;clear h3 cf;go_wp2_with fail;(with_reducible refine cN1.mono ?_);rintro e w2 ⟨rfl,hb⟩;have HO2:=Qh (HO.out.trans (Only.of_below kr hb));have HR2:=Qh (HR1.out.keep hb);obtain⟨v2,hc⟩:=HR2.out.cells;have f1:=hc.cell 1 (.int .i64 (i:Nat)) rfl;have r1:=hc.free 1;have HN:=Qh (HST.out _ HR2.out);clear hc hb cN1 f2;go_wp2_with fail;refine wp_region_held_drew (S:=(fun (_:World)=>True)) (by kernel_rfl) trivial (fun hHeld=>?_);refine hT 0 ?_;try simp only[spt]
    refine hT 1 ?_;try simp only[spt]
    refine hT 2 ?_;try simp only[spt]
    refine hT 3 ?_;try simp only[spt]
    refine hT 4 ?_;try simp only[spt]
    refine hT 5 ?_;try simp only[spt]
    refine hT 6 ?_;try simp only[spt]
    refine hT 7 ?_;try simp only[spt]
    refine wpAnyH_done (by kernel_rfl) ?_ _;go_wp2_with fail;go_ret2
    rw[HV.out];refine⟨?_,(HO2.out.set 1 _).trans (Only.of_below kr (Below.refl _ _).drew),HN.out.keep (Below.refl _ _).drew⟩;have hx1:(((((⟨#[q0,q1,q2]⟩:ByteArray)[1]'(by show 1 < 3;decide)).toNat:Int) == 48))=(([q0,q1,q2]:List UInt8)[1]? == some 48):=u8_eq q1 48;have hx2:(((((⟨#[q0,q1,q2]⟩:ByteArray)[2]'(by show 2 < 3;decide)).toNat:Int) == 45))=(([q0,q1,q2]:List UInt8)[2]? == some 45):=u8_eq q2 45;rw[← hx1,← hx2];rfl
   ·have HV:=Qh (show R=([],(RSt.ok (T.drop i)).form)by rw[HRV.out,if_neg h3]);have h3b:((X.length:Int) == 3)=false:=bN (by omega);have h3i:¬ ((X.length:Int)=3):=(by omega);go_wp2_with fail;(with_reducible refine cN1.mono ?_);rintro e w2 ⟨rfl,hb⟩;have HO2:=Qh (HO.out.trans (Only.of_below kr hb));have cF:=cf w2 ((HR1.out.keep hb).of_ok hi);clear cN1 hb cf f2;go_wp2_with fail;(with_reducible refine cF.mono ?_);rintro e w3 ⟨rfl,ho,hq⟩;have HO3:=Qh (HO2.out.trans ho);have HQ:=Qh hq;clear cF ho hq;go_wp2_with fail;go_ret2
    rw[HV.out];exact⟨rfl,HO3.out,HQ.out⟩
theorem fracW_cases (s:List UInt8) (h:∃ x,readL s=some x):(∃ n d,parseW s=.tuple #[.agg #[.int .i64 n,.int .i64 d],.int .i64 0]∧fracP s=(some (n,d),0)) ∨
  (∃ (x y m:Int),m≠0∧parseW s=.tuple #[.agg #[.int .i64 x,.int .i64 y],.int .i64 m]∧fracP s=(none,m)):=by
 obtain⟨⟨neg,d,p⟩,hr⟩:=h;unfold parseW fracP;by_cases h:96 < s.length
 ·rw[if_pos h,if_pos h];exact .inr ⟨0,0,3,by decide,rfl,rfl⟩
 ·rw[if_neg h,if_neg h,hr];unfold parseQ;simp only;cases parseF neg (valL d) p with
  | none=>exact .inr ⟨0,0,9,by decide,rfl,rfl⟩
  | some y=>
   obtain⟨n,d'⟩:=y;exact .inl ⟨n,d',rfl,rfl⟩
set_option maxRecDepth 100000 in theorem red_frac (T : List TokD) (hT : TsW T) (st : RSt) (kr : Nat) (w : World) (h : RAt w kr T st) :
  Calls prog 138 #[.pointer (some ⟨kr,0,none⟩)] w fun e w'=>RPst kr w T (.agg #[.int .i64 (st.run (0,0) fracR).1.1,.int .i64 (st.run (0,0) fracR).1.2]) (st.run (0,0) fracR).2 e w':=by
 have hpos:=hT.b.1.pos;have hlen:=hT.b.2.2;have hb0:Below w.heap.size w (w.alloc (.cells #[.int .i64 0,.int .i64 0] 80)):=(Below.refl _ _).alloc lrf _;have hkw:=h.lt;have h:=h.keep hb0;have cf:=fun W hW=>red_form T hT st kr W hW
 obtain⟨R,hR⟩:∃ R,R=st.run (0,0) fracR:=⟨_,rfl⟩
 rw[← hR];have HR:=Qh h;have HO0:=Qh (Only.of_below kr hb0);have HZ:=Qh (heap_alloc_new w (.cells #[.int .i64 0,.int .i64 0] 80));have hf0:=tk_f0;have hf1:=tk_f1;have hu:=underlying80;clear hb0;cases st with
 | bad no l c=>
  have HV:=Qh (show R=((0,0),.bad no l c)from hR);obtain⟨h0,i,hi,hr⟩:=h;obtain⟨v,hc⟩:=hr.cells;have f2:=hc.cell 2 (.int .i64 no) rfl;have e0:=bN h0;have cF:=cf _ HR.out;clear hR hr hc cf;go_enter func138,ntmps138
  go_wp2_with fail;(with_reducible refine cF.mono ?_);rintro e w2 ⟨rfl,ho,hq⟩;have HO2:=Qh (HO0.out.trans ho);have HQ:=Qh hq;have bz:Blk w2 w.heap.size #[.int .i64 0,.int .i64 0]:=⟨_,kind_only HZ.out (by omega) ho⟩
  clear cF ho hq;obtain⟨z0,z1,y0,y1⟩:=bz.two;have z1':∀ x,(w2.setCell ⟨w.heap.size,0,none⟩ x).cell? ⟨w.heap.size,1,none⟩=some (.int .i64 0):=fun x=>(bz.put 0 x).cell 1 _ rfl
  have y1':∀ x,(w2.setCell ⟨w.heap.size,0,none⟩ x).frozen? ⟨w.heap.size,1,none⟩=false:=fun x=>(bz.put 0 x).free 1
  go_wp2_with fail;refine bodyPost_ret (v:=.agg #[.int .i64 0,.int .i64 0]) (by simp[results,results138,go_sem,z0,z1]) rfl ?_;rw[HV.out];exact⟨rfl,Only.new (Only.new HO2.out _ lrf 0 _) _ lrf 1 _,(HQ.out.set hkw 0 _).set hkw 1 _⟩
 | ok ts=>
  obtain⟨i,hi,rfl,hr⟩:=h;obtain⟨v,hc⟩:=hr.cells;have f2:=hc.cell 2 (.int .i64 0) rfl;have cn:=fun W hW=>red_now T hpos hlen i 0 0 0 kr W (Nat.le_of_lt hi) hW
  rw[hdT_ok hi]at cn;unfold tkV enTok at cn;have HRI:=Qh hr;have cN:=cn _ hr;have hX20:=(hT.b.drop hi).head;clear hr hc;by_cases hk:(headT (T.drop i)).kind=2;case neg=>
   have HV:=Qh (show R=((0,0),(RSt.ok (T.drop i)).form)by
    rw[hR];unfold RSt.run fracR;simp only;rw[if_neg hk];rfl)
   have e0:=bN hk;clear hR cn;generalize (headT (T.drop i)).kind=K at *;go_enter func138,ntmps138
   go_wp2_with fail;(with_reducible refine cN.mono ?_);rintro e w1 ⟨rfl,hb⟩;have HO:=Qh (HO0.out.trans (Only.of_below kr hb));have HZ1:=Qh (kind_at HZ.out hb);have cF:=cf w1 (HR.out.keep hb);clear cN hb cf f2;go_wp2_with fail;(with_reducible refine cF.mono ?_);rintro e w2 ⟨rfl,ho,hq⟩;have HO2:=Qh (HO.out.trans ho);have HQ:=Qh hq;have bz:Blk w2 w.heap.size #[.int .i64 0,.int .i64 0]:=⟨_,kind_only HZ1.out (by omega) ho⟩
   clear cF ho hq;obtain⟨z0,z1,y0,y1⟩:=bz.two;have z1':∀ x,(w2.setCell ⟨w.heap.size,0,none⟩ x).cell? ⟨w.heap.size,1,none⟩=some (.int .i64 0):=fun x=>(bz.put 0 x).cell 1 _ rfl
   have y1':∀ x,(w2.setCell ⟨w.heap.size,0,none⟩ x).frozen? ⟨w.heap.size,1,none⟩=false:=fun x=>(bz.put 0 x).free 1
   go_wp2_with fail;refine bodyPost_ret (v:=.agg #[.int .i64 0,.int .i64 0]) (by simp[results,results138,go_sem,z0,z1]) rfl ?_;rw[HV.out];exact⟨rfl,Only.new (Only.new HO2.out _ lrf 0 _) _ lrf 1 _,(HQ.out.set hkw 0 _).set hkw 1 _⟩
  case pos=>
   have hrd:=(hT.k _ (List.getElem_mem hi)).2.2 (by rw[← head_drop hi];exact hk);rw[← head_drop hi]at hrd;have hRv:R=match fracP (headT (T.drop i)).text with|(some x,_)=>(x,.ok (T.drop i).tail)|(none,m)=>((0,0),(RSt.ok (T.drop i)).wrong m):=by
    rw[hR];unfold RSt.run fracR;simp only;rw[if_pos hk];cases fracP (headT (T.drop i)).text with
    | mk a b=>
     cases a<;>rfl
   have HRV:=Qh hRv;have HST:=Qh (fun W (hW:RAtI W kr T i 0 0 0)=>hW.step hT hi (by rw[hk];decide));have cq:=fun W=>refparse_any (headT (T.drop i)).text (by omega) W
   have hfc:=fracW_cases _ hrd;clear hR hRv hX20 hrd;rw[hk]at cN;generalize (headT (T.drop i)).text=X at *;go_enter func138,ntmps138
   go_wp2_with fail;(with_reducible refine cN.mono ?_);rintro e w1 ⟨rfl,hb⟩;have HO:=Qh (HO0.out.trans (Only.of_below kr hb));have HZ1:=Qh (kind_at HZ.out hb);have HR1:=Qh (HRI.out.keep hb);have cN1:=cn w1 HR1.out;clear cN hb cn f2 cf;go_wp2_with fail;(with_reducible refine cN1.mono ?_);rintro e w2 ⟨rfl,hb⟩;have HO2:=Qh (HO.out.trans (Only.of_below kr hb));have HZ2:=Qh (kind_at HZ1.out hb);have HR2:=Qh (HR1.out.keep hb);have cQ:=cq w2;clear hb cN1 hk cq;rcases hfc with ⟨n,d,hw,hfr⟩|⟨x,y,m,hm,hw,hfr⟩
   ·have HV:=Qh (show R=((n,d),.ok (T.drop i).tail)by rw[HRV.out,hfr]);rw[hw]at cQ;clear hw hfr;go_wp2_with fail;(with_reducible refine cQ.mono ?_);rintro e w3 ⟨rfl,hb⟩;have hb4:Below w3.heap.size w3 (w3.alloc (.cells #[.int .i64 n,.int .i64 d] 80)):=(Below.refl _ _).alloc lrf _;have HO3:=Qh ((HO2.out.trans (Only.of_below kr hb)).trans (Only.of_below kr hb4));have HZ3:=Qh (kind_at (kind_at HZ2.out hb) hb4);have HR3:=Qh ((HR2.out.keep hb).keep hb4);have HST3:=Qh (HST.out _ HR3.out);have hk3:w.heap.size < w3.heap.size:=(Array.getElem?_eq_some_iff.1 (kind_at HZ2.out hb)).1;obtain⟨v3,hc⟩:=HR3.out.cells;have f1:=hc.cell 1 (.int .i64 (i:Nat)) rfl;have r1:=hc.free 1;have b3:=Blk.new w3 #[.int .i64 n,.int .i64 d] 80;clear cQ hb hb4 hc;go_upto_region 5 with (refine wpList_newS (Z:=#[.int .i64 0,.int .i64 0]) (cs:=#[.int .i64 n,.int .i64 d]) 80 (.tmp 3) (.tmp 24) rat_zeroP rfl rfl ?_)
    generalize w3.heap.size=k3 at *;generalize w3.alloc (.cells #[.int .i64 n,.int .i64 d] 80)=W4 at *;have bz:Blk (W4.setCell ⟨kr,1,none⟩ (.int .i64 ((i:Int)+1))) w.heap.size #[.int .i64 0,.int .i64 0]:=⟨_,set_ne HZ3.out (show w.heap.size≠kr by omega) 1 _⟩
    have b4:Blk (W4.setCell ⟨kr,1,none⟩ (.int .i64 ((i:Int)+1))) k3 #[.int .i64 n,.int .i64 d]:=b3.other (a:=⟨kr,1,none⟩) (show kr≠k3 by omega) _;have HO5:=Qh (HO3.out.set 1 (.int .i64 ((i:Int)+1)));go_upto_region 9 with fail
    generalize W4.setCell ⟨kr,1,none⟩ (.int .i64 ((i:Int)+1))=W5 at *;obtain⟨z0,z1,y0,y1⟩:=bz.two;obtain⟨q0,q1,-,-⟩:=b4.two;have z1':∀ x,(W5.setCell ⟨w.heap.size,0,none⟩ x).cell? ⟨w.heap.size,1,none⟩=some (.int .i64 0):=fun x=>(bz.put 0 x).cell 1 _ rfl
    have y1':∀ x,(W5.setCell ⟨w.heap.size,0,none⟩ x).frozen? ⟨w.heap.size,1,none⟩=false:=fun x=>(bz.put 0 x).free 1
    clear f1 r1;go_wp2_with fail;refine bodyPost_ret (v:=.agg #[.int .i64 n,.int .i64 d]) (by simp[results,results138,go_sem,z0,z1]) rfl ?_;rw[HV.out];exact⟨rfl,Only.new (Only.new HO5.out _ lrf 0 _) _ lrf 1 _,(HST3.out.set hkw 0 _).set hkw 1 _⟩
   ·have HV:=Qh (show R=((0,0),(RSt.ok (T.drop i)).wrong m)by rw[HRV.out,hfr]);rw[hw]at cQ;have em:=bN hm;clear hw hfr;go_wp2_with fail;(with_reducible refine cQ.mono ?_);rintro e w3 ⟨rfl,hb⟩;have hb4:Below w3.heap.size w3 (w3.alloc (.cells #[.int .i64 x,.int .i64 y] 80)):=(Below.refl _ _).alloc lrf _;have HO3:=Qh ((HO2.out.trans (Only.of_below kr hb)).trans (Only.of_below kr hb4));have HZ3:=Qh (kind_at (kind_at HZ2.out hb) hb4);have HR3:=Qh ((HR2.out.keep hb).keep hb4);have cW:=red_wrong m hm T hT (.ok (T.drop i)) kr _ (HR3.out.of_ok hi);clear cQ hb hb4;go_upto_region 5 with (refine wpList_newS (Z:=#[.int .i64 0,.int .i64 0]) (cs:=#[.int .i64 x,.int .i64 y]) 80 (.tmp 3) (.tmp 24) rat_zeroP rfl rfl ?_)
    generalize w3.alloc (.cells #[.int .i64 x,.int .i64 y] 80)=W4 at *;go_wp2_with fail;(with_reducible refine cW.mono ?_);rintro e w5 ⟨rfl,ho,hq⟩;have HO5:=Qh (HO3.out.trans ho);have HQ:=Qh hq;have bz:Blk w5 w.heap.size #[.int .i64 0,.int .i64 0]:=⟨_,kind_only HZ3.out (by omega) ho⟩
    clear cW ho hq;obtain⟨z0,z1,y0,y1⟩:=bz.two;have z1':∀ x,(w5.setCell ⟨w.heap.size,0,none⟩ x).cell? ⟨w.heap.size,1,none⟩=some (.int .i64 0):=fun x=>(bz.put 0 x).cell 1 _ rfl
    have y1':∀ x,(w5.setCell ⟨w.heap.size,0,none⟩ x).frozen? ⟨w.heap.size,1,none⟩=false:=fun x=>(bz.put 0 x).free 1
    go_wp2_with fail;refine bodyPost_ret (v:=.agg #[.int .i64 0,.int .i64 0]) (by simp[results,results138,go_sem,z0,z1]) rfl ?_;rw[HV.out];exact⟨rfl,Only.new (Only.new HO5.out _ lrf 0 _) _ lrf 1 _,(HQ.out.set hkw 0 _).set hkw 1 _⟩
theorem run_ok2 {α:Type} {ts ts':List TokD} {d:α} {p:List TokD→PR α} (h:((RSt.ok ts).run d p).2=.ok ts'):∃ x,p ts=.ok x ts':=by
 unfold RSt.run at h;simp only at h;cases hp:p ts with
 | ok y t=>
  rw[hp]at h;cases h
  exact⟨y,rfl⟩
 | bad n l c=>
  rw[hp]at h;cases h
def rowR (n:Nat) (ts:List TokD):PR (Int×List UInt8):=match intP (headT ts).text with
 | none=>wrongR 8 ts
 | some v=>if n=256 then wrongR 5 ts else (nextR 3 ts.tail).bind fun x ts'=>.ok (v,x.text) ts'
theorem rowsF_row (f:Nat) (l:List (Int×List UInt8)) (ts:List TokD):rowsF (f+1) l ts=if (headT ts).kind=2 then (rowR l.length ts).bind fun x ts'=>rowsF f (l++[x]) ts' else .ok l ts:=by
 conv=>lhs;unfold rowsF
 unfold rowR;by_cases hk:(headT ts).kind=2
 ·rw[if_pos hk,if_pos hk];cases intP (headT ts).text with
  | none=>rfl
  | some v=>
   simp only;by_cases h:l.length=256
   ·rw[if_pos h,if_pos h];rfl
   ·rw[if_neg h,if_neg h];cases nextR 3 ts.tail<;>rfl
 ·rw[if_neg hk,if_neg hk]
def idxR (w:World) (kr:Nat):Nat:=match w.heap[kr]? with
 | some (Obj.cells C _ _)=>(match (C[1]?:Option Value)with
  | some (Value.int _ n)=>n.toNat
  | _=>0)
 | _=>0
theorem RAtI.idx {w:World} {kr:Nat} {T:List TokD} {i:Nat} {no l c:Int} (h:RAtI w kr T i no l c):idxR w kr=i:=by
 obtain⟨a,cap,h1,-⟩:=h;unfold idxR;rw[h1];show((i:Nat):Int).toNat=i;omega
theorem RAtI.cell0 {w:World} {kr:Nat} {T:List TokD} {i:Nat} {no l c:Int} (h:RAtI w kr T i no l c):∃ a cap,w.cell? ⟨kr,0,none⟩=some (.slice a T.length cap):=by
 obtain⟨a,cap,h1,-⟩:=h;exact⟨a,cap,Blk.cell ⟨_,h1⟩ 0 _ rfl⟩
theorem RAt.cell0 {w:World} {kr:Nat} {T:List TokD} {st:RSt} (h:RAt w kr T st):∃ a cap,w.cell? ⟨kr,0,none⟩=some (.slice a T.length cap):=by
 cases st with
 | ok ts=>obtain⟨i,h1,h2,h3⟩:=h;exact h3.cell0
 | bad n l c=>obtain⟨h0,i,h1,h3⟩:=h;exact h3.cell0
def skipS (f' f:Nat) (ts:List TokD):PR Unit:=afterS f' (skipF f ts)
theorem run_comm_false {st:RSt} {f:Nat} (hf:∀ ts,st=.ok ts→1≤f) (h:∀ ts,st=.ok ts→seesB [67,77,95] ts=false):(st.run () (commF f)).2=st:=by
 cases st with
 | bad n l c=>rfl
 | ok ts=>
  have h1:=hf ts rfl;have h2:=h ts rfl;obtain⟨f',rfl⟩:∃ f',f=f' + 1:=⟨f - 1,by omega⟩
  unfold RSt.run;simp only;rw[commF_succ,h2];rfl
theorem run_comm_true {ts:List TokD} {f:Nat} (h:seesB [67,77,95] ts=true):((RSt.ok ts).run () (commF (f+1))).2=((RSt.ok ts.tail).run () (skipS f ts.tail.length)).2:=by
 unfold RSt.run;simp only;rw[commF_succ,h];rfl
theorem run_skip_stop {ts:List TokD} {f' f:Nat} (h:seesB [59] ts=true∨(headT ts).kind=0):((RSt.ok ts).run () (skipS f' (f+1))).2=(((RSt.ok ts).run tok0 (mustR [59])).2.run () (commF f')).2:=by
 unfold RSt.run;simp only;unfold skipS skipF;rcases h with h|h
 ·rw[if_pos h];unfold afterS;simp only;unfold mustR;rw[if_pos h]
 ·have hs:seesB [59] ts=false:=by
   cases hs:seesB [59] ts with
   | false=>rfl
   | true=>exact absurd h (sees_kind hs)
  have hn:nextR (headT ts).kind ts=.bad (formN ts) (headT ts).line (headT ts).col:=by
   unfold nextR;rw[if_neg (fun h'=>h'.2 h)];rfl
  rw[hs,hn];unfold mustR;rw[hs];rfl
theorem run_skip_go {ts:List TokD} {f' f:Nat} (h:seesB [59] ts=false) (hk:(headT ts).kind≠0):((RSt.ok ts).run () (skipS f' (f+1))).2=((RSt.ok ts.tail).run () (skipS f' f)).2:=by
 unfold RSt.run;simp only;unfold skipS;rw[show skipF (f+1) ts=skipF f ts.tail by
  conv=>lhs;unfold skipF
  rw[h,next_self hk];rfl]
set_option maxRecDepth 100000 in theorem red_comments (T : List TokD) (hT : TsW T) (st : RSt) (kr : Nat) (w : World) (h : RAt w kr T st) :
  Calls prog 22 #[.pointer (some ⟨kr,0,none⟩)] w fun e w'=>RPst kr w T (.tuple #[]) (st.run () commentsR).2 e w':=by
 obtain⟨R,hR⟩:∃ R,R=(st.run () commentsR).2:=⟨_,rfl⟩
 rw[← hR];have hlen:=hT.b.2.2;have hpos:=hT.b.1.pos;obtain⟨f0,hf0,hR2⟩:∃ f,(∀ ts,st=.ok ts→ts.length≤f∧ts.length≤T.length)∧R=(st.run () (commF f)).2:=by
  cases st with
  | bad n l c=>exact⟨0,(fun ts e=>by cases e),hR⟩
  | ok ts=>
   obtain⟨i,hi,rfl,-⟩:=h;exact⟨(T.drop i).length,(fun ts e=>by cases e;exact⟨lrf,by rw[List.length_drop];omega⟩),hR⟩
 have HR:=Qh hR2;have HF:=Qh hf0;have htf:=tk_f0;have H0:=Qh h;clear hR hR2 h hf0;go_enter func22,ntmps22
 go_wp2_with fail;go_loopw [2] (fun kv wr=>∃ (k f:Nat) (s1:RSt),kv=.int .i64 (k:Nat)∧k≤T.length∧(∀ ts,s1=.ok ts→ts.length≤f∧k+ts.length≤T.length)∧R=(s1.run () (commF f)).2∧RAt wr kr T s1∧Only kr w wr) (fun kv _=>T.length - (intOf kv).toNat)
 case atStart=>exact⟨0,f0,st,rfl,Nat.zero_le _,(fun ts e=>⟨(HF.out ts e).1,by have:=(HF.out ts e).2;omega⟩),HR.out,H0.out,Only.of_below kr (Below.refl _ _)⟩
 case round=>
  obtain⟨k,f,s1,rfl,hk,hf,hr1,hp1,ho1⟩:=hrel;obtain⟨a0,cap0,hc0⟩:=hp1.cell0;have HO1:=Qh ho1;have HP1:=Qh hp1;have HF1:=Qh hf;have HR1:=Qh hr1;have hns:∀ ts,s1=.ok ts→1≤ts.length:=fun ts e=>by
   subst e;obtain⟨i,hi,rfl,-⟩:=HP1.out;rw[List.length_drop];omega
  clear hp1 ho1 hf hr1;by_cases hkl:(k:Int) < T.length
  ·have cs:=red_sees 1 [67,77,95] T hT s1 kr wr HP1.out;cases hS:s1.sees 1 [67,77,95]with
   | false=>
    have HV:=Qh (show R=s1 by
     rw[HR1.out];refine run_comm_false (fun ts e=>Nat.le_trans (hns ts e) (HF1.out ts e).1) (fun ts e=>?_);subst e;obtain⟨i,hi,rfl,-⟩:=HP1.out;rw[← sees_eq hT hi (k:=1) ⟨67,[77,95],rfl,.inl ⟨rfl,by decide⟩⟩];exact hS)
    rw[hS]at cs;clear hS hns;go_wp2_with fail;(with_reducible refine cs.mono ?_);rintro e w2 ⟨rfl,hb⟩;have HO:=Qh (HO1.out.trans (Only.of_below kr hb));have HP:=Qh (HP1.out.keep hb);clear cs hb;go_wp2_with fail;refine⟨rfl,.tuple #[],by simp[results,results22],rfl,HO.out,?_⟩;rw[HV.out];exact HP.out
   | true=>
    cases s1 with
    | bad n l c=>cases hS
    | ok ts=>
     have hp0:=HP1.out;obtain⟨i,hi,rfl,hri⟩:=hp0;rw[hS]at cs;rw[sees_eq hT hi (k:=1) ⟨67,[77,95],rfl,.inl ⟨rfl,by decide⟩⟩]at hS;obtain⟨hf1,hf2⟩:=HF1.out _ rfl;have hn1:=hns _ rfl;obtain⟨f',rfl⟩:∃ f',f=f' + 1:=⟨f - 1,by omega⟩
     have HV:=Qh (show R=((RSt.ok (T.drop i).tail).run () (skipS f' (T.drop i).tail.length)).2 by rw[HR1.out,run_comm_true hS]);have HRI:=Qh hri;have HK:=Qh (sees_kind hS);have hlt:(T.drop i).tail.length+1≤(T.drop i).length:=(by rw[List.length_tail];omega);clear hS hns hri;go_wp2_with fail;(with_reducible refine cs.mono ?_);rintro e w2 ⟨rfl,hb⟩;have hr2:=HRI.out.keep hb;have HST:=Qh (hr2.step hT hi HK.out);obtain⟨v2,hc2⟩:=hr2.cells;have f1:=hc2.cell 1 (.int .i64 (i:Nat)) rfl;have r1:=hc2.free 1;have HO:=Qh ((HO1.out.trans (Only.of_below kr hb)).set 1 (.int .i64 ((i:Int)+1)));generalize (T.drop i).tail=ts2 at *;generalize (T.drop i).length=n2 at *;clear cs hb hr2 hc2 hc0;go_wp2_with fail;clear f1 r1;generalize w2.setCell ⟨kr,1,none⟩ (.int .i64 ((i:Int)+1))=W3 at *;go_loopw [] (fun ww=>∃ (ts3:List TokD) (f3:Nat),ts3.length≤f3∧ts3.length≤ts2.length∧R=((RSt.ok ts3).run () (skipS f' f3)).2∧RAt ww kr T (.ok ts3)∧Only kr w ww) (fun ww=>T.length - idxR ww kr)
     case atStart=>exact⟨ts2,ts2.length,lrf,lrf,HV.out,HST.out,HO.out⟩
     case round=>
      obtain⟨ts3,f3,hf3,hl3,hr3,hp3,ho3⟩:=hrel;obtain⟨ww,hww⟩:∃ y,y=wr:=⟨_,rfl⟩
      subst hww;obtain⟨j,hj,rfl,hrj⟩:=hp3;have hn3:1≤(T.drop j).length:=(by rw[List.length_drop];omega);obtain⟨g,rfl⟩:∃ g,f3=g+1:=⟨f3 - 1,by omega⟩
      have HR3:=Qh hr3;have HO3:=Qh ho3;have HRJ:=Qh hrj;obtain⟨v3,hc3⟩:=hrj.cells;have c1:=hc3.cell 1 (.int .i64 (j:Nat)) rfl;obtain⟨a3,cap3,c0⟩:=hrj.cell0;have hjl:(j:Int) < T.length:=(by omega);have hjb:decide ((j:Int) < (T.length:Nat))=true:=decide_eq_true hjl;have csN:=fun W hW=>red_now T hpos hlen j 0 0 0 kr W (Nat.le_of_lt hj) hW
      rw[hdT_ok hj]at csN;unfold tkV enTok at csN;have csS:=fun W hW=>red_sees 4 [59] T hT (RSt.ok (T.drop j)) kr W hW
      have hse:=sees_eq hT hj (k:=4) (text:=[59]) ⟨59,[],rfl,.inr ⟨rfl,by decide⟩⟩;rw[hse]at csS;have HSK:=Qh (fun h=>@sees_kind [59] (T.drop j) h);clear hr3 ho3 hrj hc3 hse;have lN:=fun (x:Later ww)=>csN x.w (HRJ.out.keep x.below)
      have lS:=fun (x:Later ww)=>csS x.w ((HRJ.out.keep x.below).of_ok hj)
      clear csN csS;have hSV:(headT (T.drop j)).kind=0→R=(((RSt.ok (T.drop j)).run tok0 (mustR [59])).2.run () (commF f')).2:=fun h0=>by rw[HR3.out,run_skip_stop (.inr h0)]
      have HSV:=Qh hSV;have HSS:=Qh (fun (h:seesB [59] (T.drop j)=true)=>show R=(((RSt.ok (T.drop j)).run tok0 (mustR [59])).2.run () (commF f')).2 by rw[HR3.out,run_skip_stop (.inl h)]);have HSG:=Qh (fun (h:seesB [59] (T.drop j)=false) (hk:(headT (T.drop j)).kind≠0)=>show R=((RSt.ok (T.drop j).tail).run () (skipS f' g)).2 by rw[HR3.out,run_skip_go h hk]);have HSTJ:=Qh (fun W (hW:RAtI W kr T j 0 0 0) (hk:(headT (T.drop j)).kind≠0)=>hW.step hT hj hk);clear hSV HR3;generalize seesB [59] (T.drop j)=SB at *;by_cases hk0:(headT (T.drop j)).kind=0
      ·have HV3:=Qh (HSV.out hk0);rw[hk0]at lN;have l0:=fun x:Later ww=>Later.cell c0 x
       have l1:=fun x:Later ww=>Later.cell c1 x
       go_wp2_with fail;refine wp_region_later0 (by kernel_rfl) (by kernel_rfl) ?_
       repeat (go_big_quiet_step ((first|(go_at_call 24;with_reducible exact Later.made (lN _))|(go_at_call 23;with_reducible exact Later.made (lS _)))))
       refine wpQuiet_nil ?_;rintro _ ⟨x,rfl⟩;have HO4:=Qh (HO3.out.trans (Only.of_below kr x.below));have HR4:=Qh (HRJ.out.keep x.below);clear l0 l1 c0 c1 lN lS;generalize x.w=W4 at *;have cM:=red_must 4 [59] ⟨59,[],rfl,.inr ⟨rfl,by decide⟩⟩ T hT (RSt.ok (T.drop j)) kr W4 (HR4.out.of_ok hj);go_wp2_with fail;(with_reducible refine cM.mono ?_);rintro e w5 ⟨rfl,ho,hq⟩;have HO5:=Qh (HO4.out.trans ho);have HQ5:=Qh hq;clear cM ho hq;go_wp2_with fail;go_roundw;case rel=>
        refine⟨k+1,f',((RSt.ok (T.drop j)).run tok0 (mustR [59])).2,by go_num,by omega,fun ts e=>?_,HV3.out,HQ5.out,HO5.out⟩;obtain⟨xx,h2⟩:=run_ok2 e;obtain⟨-,-,h3⟩:=must_ok h2 (hT.b.drop hj);rw[h3,List.length_tail];exact⟨by omega,by omega⟩
       case measure=>simp[intOf];omega
      ·have ek:=bN hk0;have ek2:((headT (T.drop j)).kind != 0)=true:=(by rw[bne_iff_ne];exact hk0);cases SB with
       | true=>
        have HV3:=Qh (HSS.out (by first|rfl|trivial));clear HSS HSG HSV HSTJ hk0;generalize (headT (T.drop j)).kind=K at *;have l0:=fun x:Later ww=>Later.cell c0 x
        have l1:=fun x:Later ww=>Later.cell c1 x
        go_wp2_with fail;refine wp_region_later0 (by kernel_rfl) (by kernel_rfl) ?_
        repeat (go_big_quiet_step ((first|(go_at_call 24;with_reducible exact Later.made (lN _))|(go_at_call 23;with_reducible exact Later.made (lS _)))))
        refine wpQuiet_nil ?_;rintro _ ⟨x,rfl⟩;have HO4:=Qh (HO3.out.trans (Only.of_below kr x.below));have HR4:=Qh (HRJ.out.keep x.below);clear l0 l1 c0 c1 lN lS;generalize x.w=W4 at *;have cM:=red_must 4 [59] ⟨59,[],rfl,.inr ⟨rfl,by decide⟩⟩ T hT (RSt.ok (T.drop j)) kr W4 (HR4.out.of_ok hj);go_wp2_with fail;(with_reducible refine cM.mono ?_);rintro e w5 ⟨rfl,ho,hq⟩;have HO5:=Qh (HO4.out.trans ho);have HQ5:=Qh hq;clear cM ho hq;go_wp2_with fail;go_roundw;case rel=>
         refine⟨k+1,f',((RSt.ok (T.drop j)).run tok0 (mustR [59])).2,by go_num,by omega,fun ts e=>?_,HV3.out,HQ5.out,HO5.out⟩;obtain⟨xx,h2⟩:=run_ok2 e;obtain⟨-,-,h3⟩:=must_ok h2 (hT.b.drop hj);rw[h3,List.length_tail];exact⟨by omega,by omega⟩
        case measure=>simp[intOf];omega
       | false=>
        have HV3:=Qh (HSG.out (by first|rfl|trivial) hk0);have HST4:=Qh (fun W hW=>HSTJ.out W hW hk0);clear HSS HSG HSV HSTJ hk0;generalize (headT (T.drop j)).kind=K at *;have l0:=fun x:Later ww=>Later.cell c0 x
        have l1:=fun x:Later ww=>Later.cell c1 x
        go_wp2_with fail;refine wp_region_later0 (by kernel_rfl) (by kernel_rfl) ?_
        repeat (go_big_quiet_step ((first|(go_at_call 24;with_reducible exact Later.made (lN _))|(go_at_call 23;with_reducible exact Later.made (lS _)))))
        refine wpQuiet_nil ?_;rintro _ ⟨x,rfl⟩;have HO4:=Qh (HO3.out.trans (Only.of_below kr x.below));have HR4:=Qh (HRJ.out.keep x.below);clear l0 l1 c0 c1 lN lS;generalize x.w=W4 at *;obtain⟨v4,hc4⟩:=HR4.out.cells;have f4:=hc4.cell 1 (.int .i64 (j:Nat)) rfl;have r4:=hc4.free 1;have HS4:=Qh (HST4.out _ HR4.out);have HI4:=Qh (show idxR (W4.setCell ⟨kr,1,none⟩ (.int .i64 ((j:Int)+1))) kr=j+1 from (HR4.out.next).idx);have HIJ:=Qh HRJ.out.idx;clear hc4;go_wp2_with fail;go_roundw;case rel=>exact⟨(T.drop j).tail,g,by rw[List.length_tail];omega,by rw[List.length_tail];omega,HV3.out,HS4.out,HO4.out.set 1 _⟩
        case measure=>rw[HI4.out,HIJ.out];omega
  ·have HV:=Qh (show R=s1 by
    rw[HR1.out];refine run_comm_false (fun ts e=>Nat.le_trans (hns ts e) (HF1.out ts e).1) (fun ts e=>?_);have h1:=(HF1.out ts e).2;have h2:=hns ts e;omega)
   clear hns;go_wp2_with fail;refine⟨rfl,.tuple #[],by simp[results,results22],rfl,HO1.out,?_⟩;rw[HV.out];exact HP1.out
set_option maxRecDepth 100000 in theorem red_wrongI (n : Int) (T : List TokD) (hT : TsW T) (i : Nat) (hi : i < T.length) (kr : Nat) (w : World) (hr : RAtI w kr T i 0 0 0) :
  Calls prog 29 #[.pointer (some ⟨kr,0,none⟩),.int .i64 n] w fun e w'=>e=.returned (.tuple #[])∧Only kr w w'∧RAtI w' kr T i n (headT (T.drop i)).line (headT (T.drop i)).col:=by
 have hpos:=hT.b.1.pos;have hlen:=hT.b.2.2;obtain⟨v,hc⟩:=hr.cells;have c2:=hc.cell 2 (.int .i64 0) rfl;have r2:=hc.free 2;have hr2:=hr.put2 n;have HO:=Qh ((Only.of_below kr (Below.refl w.heap.size w)).set 2 (.int .i64 n));have HR:=Qh hr2;have HD:=Qh (hdT_ok hi);clear hr hc hr2;go_enter func29,ntmps29
 go_upto_region 2 with fail
 clear c2 r2;generalize w.setCell ⟨kr,2,none⟩ (.int .i64 n)=w1 at *;have cn:=red_now T hpos hlen i n 0 0 kr w1 (Nat.le_of_lt hi) HR.out;unfold tkV enTok at cn;have hf2:=tk_f2;go_wp2_with fail;(with_reducible refine cn.mono ?_);rintro e w2 ⟨rfl,hb⟩;have HR2:=Qh (HR.out.keep hb);have HO2:=Qh (HO.out.trans (Only.of_below kr hb));obtain⟨v2,hc⟩:=HR2.out.cells;rw[HD.out];obtain⟨L,hL⟩:∃ L,L=(headT (T.drop i)).line:=⟨_,rfl⟩
 obtain⟨C,hC⟩:∃ C,C=(headT (T.drop i)).col:=⟨_,rfl⟩
 rw[← hL,← hC];have HLL:=Qh hL;have HCC:=Qh hC;clear hL hC;have c3:=hc.cell 3 (.int .i64 0) rfl;have r3:=hc.free 3;have c4:=hc.cell 4 (.int .i64 0) rfl;have r4:=hc.free 4;have d4:∀ x,(w2.setCell ⟨kr,3,none⟩ x).cell? ⟨kr,4,none⟩=some (.int .i64 0):=fun x=>(hc.put 3 x).cell 4 _ rfl
 have s4:∀ x,(w2.setCell ⟨kr,3,none⟩ x).frozen? ⟨kr,4,none⟩=false:=fun x=>(hc.put 3 x).free 4
 clear cn hb hc HD;go_wp2_with fail;refine⟨rfl,.tuple #[],by simp[results,results29],rfl,(HO2.out.set 3 _).set 4 _,?_⟩;rw[← HLL.out,← HCC.out];exact(HR2.out.put3 L).put4 C
set_option maxRecDepth 100000 in theorem red_wrongB (n : Int) (T : List TokD) (i : Nat) (no l c : Int) (h0 : no ≠ 0) (kr : Nat) (w : World) (hr : RAtI w kr T i no l c) :
  Calls prog 29 #[.pointer (some ⟨kr,0,none⟩),.int .i64 n] w fun e w'=>e=.returned (.tuple #[])∧w' = w:=by
 obtain⟨v,hc⟩:=hr.cells;have c2:=hc.cell 2 (.int .i64 no) rfl;have e0:=bN h0;clear hr hc;go_enter func29,ntmps29
 go_wp2_with fail;exact⟨rfl,.tuple #[],by simp[results,results29],rfl,rfl⟩
set_option maxRecDepth 100000 in theorem red_row (n : Nat) (T : List TokD) (hT : TsW T) (i : Nat) (hi : i < T.length) (hk : (headT (T.drop i)).kind = 2) (kr : Nat) (w : World) (h : RAtI w kr T i 0 0 0) :
  Calls prog 86 #[.pointer (some ⟨kr,0,none⟩),.int .i64 (n:Nat)] w fun e w'=>∃ (z:Int) (tx:List UInt8),e=.returned (.agg #[.int .i64 z,.string ⟨tx.toArray⟩])∧Only kr w w' ∧
   RAt w' kr T ((RSt.ok (T.drop i)).run (0,[]) (rowR n)).2∧(((RSt.ok (T.drop i)).run (0,[]) (rowR n)).2.isOk→((RSt.ok (T.drop i)).run (0,[]) (rowR n)).1=(z,tx)):=by
 have hpos:=hT.b.1.pos;have hlen:=hT.b.2.2;have hX20:=(hT.b.drop hi).head;have hb0:Below w.heap.size w (w.alloc (.cells #[.int .i64 0,.string ⟨#[]⟩] 178)):=(Below.refl _ _).alloc lrf _;have hkw:=h.lt;obtain⟨R,hR⟩:∃ R,R=(RSt.ok (T.drop i)).run (0,[]) (rowR n):=⟨_,rfl⟩
 rw[← hR];have HO0:=Qh (Only.of_below kr hb0);have HZ:=Qh (heap_alloc_new w (.cells #[.int .i64 0,.string ⟨#[]⟩] 178));have HRI:=Qh (h.keep hb0);have hf1:=tk_f1;have cn:=red_now T hpos hlen i 0 0 0 kr _ (Nat.le_of_lt hi) HRI.out;rw[hdT_ok hi]at cn;unfold tkV enTok at cn;have cq:=fun W=>red_signed (headT (T.drop i)).text hX20 W
 rw[sgnQ_eq]at cq;have hn1:=((hT.b.drop hi).tail (by rw[hk];decide)).1.pos;rw[tail_drop,List.length_drop]at hn1;have hi1:i+1 < T.length:=(by omega);have hRn:intP (headT (T.drop i)).text=none→R=((0,[]),.bad 8 (headT (T.drop i)).line (headT (T.drop i)).col):=fun e=>by
  rw[hR];unfold RSt.run rowR;simp only;rw[e];rfl
 have hR5:∀ v,intP (headT (T.drop i)).text=some v→n=256→R=((0,[]),.bad 5 (headT (T.drop i)).line (headT (T.drop i)).col):=fun v e e5=>by
  rw[hR];unfold RSt.run rowR;simp only;rw[e];simp only;rw[if_pos e5];rfl
 have hRo:∀ v,intP (headT (T.drop i)).text=some v→n≠256→R.2=((RSt.ok (T.drop (i+1))).run tok0 (nextR 3)).2∧(R.2.isOk→R.1=(v,((RSt.ok (T.drop (i+1))).run tok0 (nextR 3)).1.text)):=fun v e e5=>by
  rw[hR];unfold RSt.run rowR;simp only;rw[e];simp only;rw[if_neg e5,tail_drop];cases nextR 3 (T.drop (i+1))with
  | ok x t=>exact⟨rfl,fun _=>rfl⟩
  | bad a b c=>exact⟨rfl,fun h=>h.elim⟩
 have HRn:=Qh hRn;have HR5:=Qh hR5;have HRo:=Qh hRo;have cwI:=fun m W hW=>red_wrongI m T hT i hi kr W hW
 clear hR hb0 h hRn hR5 hRo hX20;generalize (headT (T.drop i)).line=L at *;generalize (headT (T.drop i)).col=C at *;generalize (headT (T.drop i)).text=X at *;rw[hk]at cn;go_enter func86,ntmps86
 go_wp2_with fail;(with_reducible refine cn.mono ?_);rintro e w1 ⟨rfl,hb⟩;have HO:=Qh (HO0.out.trans (Only.of_below kr hb));have HZ1:=Qh (kind_at HZ.out hb);have HR1:=Qh (HRI.out.keep hb);clear cn hb;go_wp2_with fail;with_reducible refine(cq w1).mono ?_
 rintro e w2 ⟨z,rfl,hz,hb⟩;have HO2:=Qh (HO.out.trans (Only.of_below kr hb));have HZ2:=Qh (kind_at HZ1.out hb);have HR2:=Qh (HR1.out.keep hb);clear cq hb;cases hI:intP X with
 | none=>
  have HV:=Qh (HRn.out hI);have cW:=cwI 8 w2 HR2.out;clear hz;go_wp2_with fail;(with_reducible refine cW.mono ?_);rintro e w3 ⟨rfl,ho,hr3⟩;have HO3:=Qh (HO2.out.trans ho);have HZ3:=Qh (kind_only HZ2.out (by omega) ho);have HR3:=Qh hr3;have cB:=red_wrongB 5 T i 8 L C (by decide) kr w3 hr3;obtain⟨v3,hc3⟩:=hr3.cells;have f3:=hc3.cell 1 (.int .i64 (i:Nat)) rfl;have r3:=hc3.free 1;have HR4:=Qh (show RAt (w3.setCell ⟨kr,1,none⟩ (.int .i64 ((i:Int)+1))) kr T (.bad 8 L C)from (hr3.next).of_bad (by omega) (by decide));have HO4:=Qh (HO3.out.set 1 (.int .i64 ((i:Int)+1)));have HZ4:=Qh (set_ne HZ3.out (show w.heap.size≠kr by omega) 1 (.int .i64 ((i:Int)+1)));clear cW ho hr3 hc3 cwI;by_cases h256:n=256
  ·subst h256;go_wp2_with fail;(with_reducible refine cB.mono ?_);rintro e w3' ⟨rfl,rfl⟩;clear cB;go_upto_region 7 with fail
   generalize w3'.setCell ⟨kr,1,none⟩ (.int .i64 ((i:Int)+1))=W5 at *;have cT:=red_text T hT (RSt.bad 8 L C) kr W5 HR4.out;go_wp2_with fail;(with_reducible refine cT.mono ?_);rintro e w6 ⟨rfl,ho,hq⟩;have HO6:=Qh (HO4.out.trans ho);have HQ6:=Qh hq;have bz:Blk w6 w.heap.size #[.int .i64 0,.string ⟨#[]⟩]:=⟨_,kind_only HZ4.out (by omega) ho⟩
   obtain⟨z0,z1,y0,y1⟩:=bz.two;have z1':∀ x,(w6.setCell ⟨w.heap.size,0,none⟩ x).cell? ⟨w.heap.size,1,none⟩=some (.string ⟨#[]⟩):=fun x=>(bz.put 0 x).cell 1 _ rfl
   have y1':∀ x,(w6.setCell ⟨w.heap.size,0,none⟩ x).frozen? ⟨w.heap.size,1,none⟩=false:=fun x=>(bz.put 0 x).free 1
   have HOK:=Qh (show R.2=((RSt.bad 8 L C).run tok0 (nextR 3)).2∧(R.2.isOk→R.1=(z,((RSt.bad 8 L C).run tok0 (nextR 3)).1.text))from ⟨by rw[HV.out];rfl,fun h=>by rw[HV.out]at h;exact h.elim⟩);clear cT ho hq;generalize ((RSt.bad 8 L C).run tok0 (nextR 3)).1.text=TX at *;go_wp2_with fail;refine bodyPost_ret (v:=.agg #[.int .i64 z,.string ⟨TX.toArray⟩]) (by simp[results,results86,go_sem,z0,z1]) rfl ?_;refine⟨z,TX,rfl,Only.new (Only.new HO6.out _ lrf 0 _) _ lrf 1 _,?_,HOK.out.2⟩;rw[HOK.out.1];exact(HQ6.out.set hkw 0 _).set hkw 1 _
  ·have h256b:((n:Int) == 256)=false:=bN (by omega);clear cB;go_upto_region 7 with fail
   generalize w3.setCell ⟨kr,1,none⟩ (.int .i64 ((i:Int)+1))=W5 at *;have cT:=red_text T hT (RSt.bad 8 L C) kr W5 HR4.out;go_wp2_with fail;(with_reducible refine cT.mono ?_);rintro e w6 ⟨rfl,ho,hq⟩;have HO6:=Qh (HO4.out.trans ho);have HQ6:=Qh hq;have bz:Blk w6 w.heap.size #[.int .i64 0,.string ⟨#[]⟩]:=⟨_,kind_only HZ4.out (by omega) ho⟩
   obtain⟨z0,z1,y0,y1⟩:=bz.two;have z1':∀ x,(w6.setCell ⟨w.heap.size,0,none⟩ x).cell? ⟨w.heap.size,1,none⟩=some (.string ⟨#[]⟩):=fun x=>(bz.put 0 x).cell 1 _ rfl
   have y1':∀ x,(w6.setCell ⟨w.heap.size,0,none⟩ x).frozen? ⟨w.heap.size,1,none⟩=false:=fun x=>(bz.put 0 x).free 1
   have HOK:=Qh (show R.2=((RSt.bad 8 L C).run tok0 (nextR 3)).2∧(R.2.isOk→R.1=(z,((RSt.bad 8 L C).run tok0 (nextR 3)).1.text))from ⟨by rw[HV.out];rfl,fun h=>by rw[HV.out]at h;exact h.elim⟩);clear cT ho hq;generalize ((RSt.bad 8 L C).run tok0 (nextR 3)).1.text=TX at *;go_wp2_with fail;refine bodyPost_ret (v:=.agg #[.int .i64 z,.string ⟨TX.toArray⟩]) (by simp[results,results86,go_sem,z0,z1]) rfl ?_;refine⟨z,TX,rfl,Only.new (Only.new HO6.out _ lrf 0 _) _ lrf 1 _,?_,HOK.out.2⟩;rw[HOK.out.1];exact(HQ6.out.set hkw 0 _).set hkw 1 _
 | some v=>
  obtain rfl:z=v:=hz v hI;clear hz;by_cases h256:n=256
  ·have HV:=Qh (HR5.out z hI h256);have cW:=cwI 5 w2 HR2.out;subst h256;go_wp2_with fail;(with_reducible refine cW.mono ?_);rintro e w3 ⟨rfl,ho,hr3⟩;have HO3:=Qh (HO2.out.trans ho);have HZ3:=Qh (kind_only HZ2.out (by omega) ho);obtain⟨v3,hc3⟩:=hr3.cells;have f3:=hc3.cell 1 (.int .i64 (i:Nat)) rfl;have r3:=hc3.free 1;have HR4:=Qh (show RAt (w3.setCell ⟨kr,1,none⟩ (.int .i64 ((i:Int)+1))) kr T (.bad 5 L C)from (hr3.next).of_bad (by omega) (by decide));have HO4:=Qh (HO3.out.set 1 (.int .i64 ((i:Int)+1)));have HZ4:=Qh (set_ne HZ3.out (show w.heap.size≠kr by omega) 1 (.int .i64 ((i:Int)+1)));clear cW ho hr3 hc3 cwI;go_upto_region 7 with fail
   generalize w3.setCell ⟨kr,1,none⟩ (.int .i64 ((i:Int)+1))=W5 at *;have cT:=red_text T hT (RSt.bad 5 L C) kr W5 HR4.out;go_wp2_with fail;(with_reducible refine cT.mono ?_);rintro e w6 ⟨rfl,ho,hq⟩;have HO6:=Qh (HO4.out.trans ho);have HQ6:=Qh hq;have bz:Blk w6 w.heap.size #[.int .i64 0,.string ⟨#[]⟩]:=⟨_,kind_only HZ4.out (by omega) ho⟩
   obtain⟨z0,z1,y0,y1⟩:=bz.two;have z1':∀ x,(w6.setCell ⟨w.heap.size,0,none⟩ x).cell? ⟨w.heap.size,1,none⟩=some (.string ⟨#[]⟩):=fun x=>(bz.put 0 x).cell 1 _ rfl
   have y1':∀ x,(w6.setCell ⟨w.heap.size,0,none⟩ x).frozen? ⟨w.heap.size,1,none⟩=false:=fun x=>(bz.put 0 x).free 1
   have HOK:=Qh (show R.2=((RSt.bad 5 L C).run tok0 (nextR 3)).2∧(R.2.isOk→R.1=(z,((RSt.bad 5 L C).run tok0 (nextR 3)).1.text))from ⟨by rw[HV.out];rfl,fun h=>by rw[HV.out]at h;exact h.elim⟩);clear cT ho hq;generalize ((RSt.bad 5 L C).run tok0 (nextR 3)).1.text=TX at *;go_wp2_with fail;refine bodyPost_ret (v:=.agg #[.int .i64 z,.string ⟨TX.toArray⟩]) (by simp[results,results86,go_sem,z0,z1]) rfl ?_;refine⟨z,TX,rfl,Only.new (Only.new HO6.out _ lrf 0 _) _ lrf 1 _,?_,HOK.out.2⟩;rw[HOK.out.1];exact(HQ6.out.set hkw 0 _).set hkw 1 _
  ·have HV:=Qh (HRo.out z hI h256);have h256b:((n:Int) == 256)=false:=bN (by omega);obtain⟨v3,hc3⟩:=HR2.out.cells;have f3:=hc3.cell 1 (.int .i64 (i:Nat)) rfl;have r3:=hc3.free 1;have HR4:=Qh (show RAt (w2.setCell ⟨kr,1,none⟩ (.int .i64 ((i:Int)+1))) kr T (.ok (T.drop (i+1)))from (HR2.out.next).of_ok hi1);have HO4:=Qh (HO2.out.set 1 (.int .i64 ((i:Int)+1)));have HZ4:=Qh (set_ne HZ2.out (show w.heap.size≠kr by omega) 1 (.int .i64 ((i:Int)+1)));clear hc3 cwI;go_upto_region 7 with fail
   generalize w2.setCell ⟨kr,1,none⟩ (.int .i64 ((i:Int)+1))=W5 at *;have cT:=red_text T hT (RSt.ok (T.drop (i+1))) kr W5 HR4.out;go_wp2_with fail;(with_reducible refine cT.mono ?_);rintro e w6 ⟨rfl,ho,hq⟩;have HO6:=Qh (HO4.out.trans ho);have HQ6:=Qh hq;have bz:Blk w6 w.heap.size #[.int .i64 0,.string ⟨#[]⟩]:=⟨_,kind_only HZ4.out (by omega) ho⟩
   obtain⟨z0,z1,y0,y1⟩:=bz.two;have z1':∀ x,(w6.setCell ⟨w.heap.size,0,none⟩ x).cell? ⟨w.heap.size,1,none⟩=some (.string ⟨#[]⟩):=fun x=>(bz.put 0 x).cell 1 _ rfl
   have y1':∀ x,(w6.setCell ⟨w.heap.size,0,none⟩ x).frozen? ⟨w.heap.size,1,none⟩=false:=fun x=>(bz.put 0 x).free 1
   have HOK:=Qh (show R.2=((RSt.ok (T.drop (i+1))).run tok0 (nextR 3)).2∧(R.2.isOk→R.1=(z,((RSt.ok (T.drop (i+1))).run tok0 (nextR 3)).1.text))from HV.out);clear cT ho hq;generalize ((RSt.ok (T.drop (i+1))).run tok0 (nextR 3)).1.text=TX at *;go_wp2_with fail;refine bodyPost_ret (v:=.agg #[.int .i64 z,.string ⟨TX.toArray⟩]) (by simp[results,results86,go_sem,z0,z1]) rfl ?_;refine⟨z,TX,rfl,Only.new (Only.new HO6.out _ lrf 0 _) _ lrf 1 _,?_,HOK.out.2⟩;rw[HOK.out.1];exact(HQ6.out.set hkw 0 _).set hkw 1 _
end Go.Proofs.YtlacjhjckkablaaGreatDoor
