/-
  chars.Quote: contract.
-/
import Derived.Test.YtkblpaabknjckaaGreatDoorBaseD
import Derived.Test.YtkblpaabknjckaaGreatDoorRplC
import Derived.Test.YtkblpaabknjckaaGreatDoorShelfV
import Derived.Test.YtkblpaabknjckaaGreatDoorCalm
import Derived.Laws.CopyOwn
import Derived.Deep.Cut
import Derived.Deep.DeepCutAuto
import Derived.BigQuiet
set_option maxHeartbeats 128000000
set_option linter.unusedVariables false
namespace Go.Proofs.YtkblpaabknjckaaGreatDoor
open Go.Proofs.Tryz
open Go.RowKit Go.Shelf
def escB (c:UInt8):List UInt8:=if c=92∨c=34 then [92,c] else [c]
def escQ (l:List UInt8):List UInt8:=l.flatMap escB
def cqL (l:List UInt8):Nat:=l.count 34+l.count 92
theorem escB_len (c:UInt8):(escB c).length=1+cqL [c]:=by
 unfold escB cqL;by_cases h1:c=92
 ·subst h1;rfl
 ·by_cases h2:c=34
  ·subst h2;rfl
  ·rw[if_neg (by rintro (h|h);exact h1 h;exact h2 h),List.count_cons,List.count_cons];simp[h1,h2]
theorem cqL_app (a b:List UInt8):cqL (a++b)=cqL a+cqL b:=by unfold cqL;rw[List.count_append,List.count_append];omega
theorem escQ_app (a b:List UInt8):escQ (a++b)=escQ a++escQ b:=List.flatMap_append
theorem escQ_len (l:List UInt8):(escQ l).length=l.length+cqL l:=by
 induction l with
 | nil=>rfl
 | cons c t ih=>
  have e1:escQ (c::t)=escB c++escQ t:=rfl;have e2:cqL (c::t)=cqL [c]+cqL t:=cqL_app [c] t;rw[e1,List.length_append,ih,escB_len,e2,List.length_cons];omega
theorem cqL_le (l:List UInt8):cqL l≤l.length:=by
 induction l with
 | nil=>exact lrf
 | cons c t ih=>
  have e2:cqL (c::t)=cqL [c]+cqL t:=cqL_app [c] t;have h:cqL [c]≤1:=by
   have:=escB_len c;unfold escB at this;split at this<;>simp at this<;>omega
  rw[e2,List.length_cons];omega
theorem escQ_id (l:List UInt8) (h:cqL l=0):escQ l=l:=by
 induction l with
 | nil=>rfl
 | cons c t ih=>
  have e2:cqL (c::t)=cqL [c]+cqL t:=cqL_app [c] t;have e1:escQ (c::t)=escB c++escQ t:=rfl;have h3:=escB_len c;rw[e1,ih (by omega)];unfold escB at h3 ⊢;split
  ·rename_i h4;rw[if_pos h4]at h3;simp at h3;omega
  ·rfl
theorem escQ_take (l:List UInt8) (i:Nat) (h:i < l.length):escQ (l.take (i+1))=escQ (l.take i)++escB l[i]:=by
 rw[List.take_succ_eq_append_getElem h,escQ_app];show _++(escB l[i]++[])=_;rw[List.append_nil]
theorem cqL_take (l:List UInt8) (i:Nat) (h:i < l.length):cqL (l.take (i+1))=cqL (l.take i)+cqL [l[i]]:=by
 rw[List.take_succ_eq_append_getElem h,cqL_app]
theorem cqL_take_le (l:List UInt8) (i:Nat):cqL (l.take i)≤cqL l:=by
 have h:=cqL_app (l.take i) (l.drop i);rw[List.take_append_drop]at h;omega
theorem splice_take {α:Type} (L cs:List α) (j:Nat) (h:j≤L.length):(splice L j cs).take (j+cs.length)=L.take j++cs:=by
 unfold splice;rw[← List.append_assoc];have e:j+cs.length=(L.take j++cs).length:=(by rw[List.length_append,List.length_take];omega);rw[e,List.take_left]
theorem set_take {α:Type} (L:List α) (v:α) (j:Nat) (h:j < L.length):(L.set j v).take (j+1)=L.take j++[v]:=by
 rw[List.take_succ_eq_append_getElem (by rw[List.length_set];exact h),List.getElem_set_self,List.take_set_of_le lrf]
theorem heap_set {w:World} {g:Nat} {cu:List Value} {T:TypeId} (h:w.heap[g]? = some (.cells cu.toArray T (0,0))) (j:Nat) (v:Value):(w.setCell ⟨g,j,none⟩ v).heap[g]? = some (.cells (cu.set j v).toArray T (0,0)):=by
 simp[World.setCell,Array.getElem?_modify,h]
set_option maxRecDepth 100000 in theorem replB_any (base B : Nat) (s : List UInt8) (hs : s.length ≤ 140737488351232) (w : World) (hR : RepAt w base B) :
  Calls prog 285 #[.pointer (some ⟨B,0,none⟩),.string ⟨s.toArray⟩] w fun e w'=>e=.returned (.string ⟨(escQ s).toArray⟩)∧Below w.heap.size w w':=by
 have c34:∀ W,Calls prog 287 #[.string ⟨s.toArray⟩,.string ⟨#[34]⟩] W fun e w'=>e=.returned (.int .i64 (s.count 34:Nat))∧w' = W:=fun W=>Tryz.strings_Count_one ⟨s.toArray⟩ 34 W
 have c92:∀ W,Calls prog 287 #[.string ⟨s.toArray⟩,.string ⟨#[92]⟩] W fun e w'=>e=.returned (.int .i64 (s.count 92:Nat))∧w' = W:=fun W=>Tryz.strings_Count_one ⟨s.toArray⟩ 92 W
 have hq:=cqL_le s;have hqd:cqL s=s.count 34+s.count 92:=rfl;have HR:=Qh hR;obtain⟨gt,kt,-,t256,tsl⟩:=hR.t;obtain⟨gq,kq,-,tq,tqs⟩:=hR.q;obtain⟨gs,ks,-,tb,tbs⟩:=hR.s;have hnn:∀ w:World,(binOp .neq 172 (.slice none 0 0) (.slice none 0 0)).run prog w=.ok (.bool false) w:=fun w=>by kernel_rfl
 have hns:∀ (g k:Nat) (w:World),(binOp .neq 172 (.slice (some ⟨g,0,none⟩) 2 k) (.slice none 0 0)).run prog w=.ok (.bool true) w:=fun g k w=>by kernel_rfl
 obtain⟨b0,o0,e0,-,x0⟩:=SlOf.cell1 tsl (fun x:ByteArray=>.string x) (fun _=>rfl) (k:=0) (by decide);obtain⟨b1,o1,e1,-,x1⟩:=SlOf.cell1 tsl (fun x:ByteArray=>.string x) (fun _=>rfl) (k:=1) (by decide);cases e0;cases e1
 replace x0:w.cell? ⟨gt,0,none⟩=some (.string ⟨#[34]⟩):=x0;replace x1:w.cell? ⟨gt,1,none⟩=some (.string ⟨#[92]⟩):=(by simpa using x1);have kle:=tsl.le;have HQ:=Qh tqs;have HS:=Qh tbs;have HQD:=Qh hqd;have hg34:∀ h,(⟨#[34]⟩:ByteArray)[0]'h=34:=fun _=>rfl
 have hg92:∀ h,(⟨#[92]⟩:ByteArray)[0]'h=92:=fun _=>rfl
 clear hR tsl tqs tbs hqd;go_enter func285,ntmps285
 go_upto_if 26 with (fail)
 go_cut [5,6] (fun n b ws=>n=.int .i64 ((s.length+cqL s:Nat):Int)∧b=.bool (decide (0 < cqL s))∧Below w.heap.size w ws)
 case first=>
  by_cases h16:(16:Int)≤s.length
  ·have h34:s.count 34≤s.length:=List.count_le_length;have h92:s.count 92≤s.length:=List.count_le_length;generalize s.count 34=n34 at *;generalize s.count 92=n92 at *;by_cases z34:n34=0
   ·by_cases z92:n92=0
    ·subst z34;subst z92;have HF:=Qh (show cqL s=0 from HQD.out);go_wp2_with fail;refine wp_loop_rounds 3 ?_;rw[rounds_succ];go_wp2_with fail;with_reducible refine(c34 _).mono ?_
     rintro e w1 ⟨rfl,rfl⟩;go_wp2_with fail;rw[rounds_succ];go_wp2_with fail;with_reducible refine(c92 _).mono ?_
     rintro e w1 ⟨rfl,rfl⟩;go_wp2_with fail;rw[rounds_succ];go_wp2_with fail;go_meet
     case rel=>exact⟨by rw[HF.out];rfl,by rw[HF.out];rfl,Below.refl _ _⟩
    ·subst z34;have g92:((n92:Int) != 0)=true:=(by rw[bne_iff_ne];omega);have HF:=Qh (show cqL s=n92 by rw[HQD.out];omega);have hw1:IntKind.i64.wrap ((s.length:Int)+(n92:Int))=(s.length:Int)+(n92:Int):=(by unfold IntKind.wrap;simp[IntKind.bits,IntKind.signed];omega);have hw2:IntKind.i64.wrap (n92:Int)=(n92:Int):=(by unfold IntKind.wrap;simp[IntKind.bits,IntKind.signed];omega);have HP:=Qh (show 0 < n92 by omega);clear z92;go_wp2_with fail;refine wp_loop_rounds 3 ?_;rw[rounds_succ];go_wp2_with fail;with_reducible refine(c34 _).mono ?_
     rintro e w1 ⟨rfl,rfl⟩;go_wp2_with fail;rw[rounds_succ];go_wp2_with fail;with_reducible refine(c92 _).mono ?_
     rintro e w1 ⟨rfl,rfl⟩;go_wp2_with fail;go_quiet (fail)
     go_wp2_with fail;rw[rounds_succ];go_wp2_with fail;go_meet
     case rel=>exact⟨by rw[HF.out];go_num,by rw[HF.out,decide_eq_true HP.out],Go.below_drewN (Below.refl _ _) _⟩
   ·have g34:((n34:Int) != 0)=true:=(by rw[bne_iff_ne];omega);have hw1:IntKind.i64.wrap ((s.length:Int)+(n34:Int))=(s.length:Int)+(n34:Int):=(by unfold IntKind.wrap;simp[IntKind.bits,IntKind.signed];omega);have hw2:IntKind.i64.wrap (n34:Int)=(n34:Int):=(by unfold IntKind.wrap;simp[IntKind.bits,IntKind.signed];omega);by_cases z92:n92=0
    ·subst z92;have HF:=Qh (show cqL s=n34 by rw[HQD.out];omega);have HP:=Qh (show 0 < n34 by omega);clear z34;go_wp2_with fail;refine wp_loop_rounds 3 ?_;rw[rounds_succ];go_wp2_with fail;with_reducible refine(c34 _).mono ?_
     rintro e w1 ⟨rfl,rfl⟩;go_wp2_with fail;go_quiet (fail)
     go_wp2_with fail;rw[rounds_succ];go_wp2_with fail;with_reducible refine(c92 _).mono ?_
     rintro e w1 ⟨rfl,rfl⟩;go_wp2_with fail;rw[rounds_succ];go_wp2_with fail;go_meet
     case rel=>exact⟨by rw[HF.out];go_num,by rw[HF.out,decide_eq_true HP.out],Go.below_drewN (Below.refl _ _) _⟩
    ·have g92:((n92:Int) != 0)=true:=(by rw[bne_iff_ne];omega);have hw3:IntKind.i64.wrap ((s.length:Int)+(n34:Int)+(n92:Int))=(s.length:Int)+(n34:Int)+(n92:Int):=(by unfold IntKind.wrap;simp[IntKind.bits,IntKind.signed];omega);have hw4:IntKind.i64.wrap (n92:Int)=(n92:Int):=(by unfold IntKind.wrap;simp[IntKind.bits,IntKind.signed];omega);have HF:=Qh (show cqL s=n34+n92 by rw[HQD.out]);have HP:=Qh (show 0 < n34+n92 by omega);clear z92 z34;go_wp2_with fail;refine wp_loop_rounds 3 ?_;rw[rounds_succ];go_wp2_with fail;with_reducible refine(c34 _).mono ?_
     rintro e w1 ⟨rfl,rfl⟩;go_wp2_with fail;go_quiet (fail)
     go_wp2_with fail;rw[rounds_succ];go_wp2_with fail;with_reducible refine(c92 _).mono ?_
     rintro e w1 ⟨rfl,rfl⟩;go_wp2_with fail;go_quiet (fail)
     go_wp2_with fail;rw[rounds_succ];go_wp2_with fail;go_meet
     case rel=>exact⟨by rw[HF.out];go_num,by rw[HF.out,decide_eq_true HP.out],Go.below_drewN (Below.refl _ _) _⟩
  ·clear c34 c92 HQD x0 x1;go_wp2_with fail;go_loopw [5,6,10] (fun n b x wr=>∃ i:Nat,i≤s.length∧x=.int .i64 i∧n=.int .i64 ((s.length+cqL (s.take i):Nat):Int)∧b=.bool (decide (0 < cqL (s.take i)))∧Below w.heap.size w wr) (fun _ _ x _=>s.length - (intOf x).toNat)
   case atStart=>exact⟨0,Nat.zero_le _,rfl,rfl,rfl,Below.refl _ _⟩
   case round=>
    obtain⟨i,hi,rfl,rfl,rfl,hbel⟩:=hrel;have HBE:=Qh hbel;have HRr:=Qh (HR.out.keep hbel);have q34:=cell_keep' tq hbel;have q92:=cell_keep' tb hbel;have hql:=Nat.le_trans (cqL_take_le s i) hq;clear hbel;by_cases hlt:i < s.length
    ·have hget:(⟨s.toArray⟩:ByteArray)[i]'hlt=s[i]:=rfl;have HT:=Qh (cqL_take s i hlt);generalize cqL (s.take i)=q at *;generalize s[i]=c at *;by_cases h34:c=34
     ·have HN:=Qh (show cqL (s.take (i+1))=q+1 by rw[HT.out,h34];rfl);subst h34;have hc:(34:UInt8).toNat=34:=rfl;have hwn:IntKind.i64.wrap (((s.length+q:Nat):Int)+1)=((s.length+q:Nat):Int)+1:=(by unfold IntKind.wrap;simp[IntKind.bits,IntKind.signed];omega);go_wp2_with fail;go_roundw;case rel=>exact⟨i+1,by omega,by go_num,by rw[HN.out];go_num,by rw[HN.out];simp,HBE.out⟩
      case measure=>simp[intOf];omega
     ·by_cases h92:c=92
      ·have HN:=Qh (show cqL (s.take (i+1))=q+1 by rw[HT.out,h92];rfl);subst h92;have hc:(92:UInt8).toNat=92:=rfl;go_wp2_with fail;go_roundw;case rel=>exact⟨i+1,by omega,by go_num,by rw[HN.out];go_num,by rw[HN.out];simp,HBE.out⟩
       case measure=>simp[intOf];omega
      ·have HN:=Qh (show cqL (s.take (i+1))=q by
        rw[HT.out];have:=escB_len c;unfold escB at this;rw[if_neg (by rintro (h|h);exact h92 h;exact h34 h)]at this;simp at this;omega)
       have hcl:c.toNat < 256:=c.toNat_lt;have hcell:=HRr.out.nil c.toNat hcl (fun h=>h34 (UInt8.toNat.inj h)) (fun h=>h92 (UInt8.toNat.inj h));clear h34 h92;go_wp2_with fail;go_roundw;case rel=>exact⟨i+1,by omega,by go_num,by rw[HN.out],by rw[HN.out],HBE.out⟩
       case measure=>simp[intOf];omega
    ·have:i=s.length:=by omega
     subst this;go_wp2_with fail;go_meet
     case rel=>exact⟨by rw[List.take_length],by rw[List.take_length],HBE.out⟩
 case rest=>
 obtain⟨rfl,rfl,hb⟩:=hcut;clear c34 c92 x0 x1 kle HQD t256;have HB:=Qh hb;obtain⟨w1,hw1⟩:∃ x,x=wc:=⟨_,rfl⟩
 subst hw1;by_cases h0:cqL s=0
 ·have HE:=Qh (escQ_id s h0);rw[h0];clear h0 hb;go_wp2_with fail;go_ret;exact⟨by rw[HE.out];rfl,HB.out⟩
 have hdt:decide (0 < cqL s)=true:=decide_eq_true (by omega);rw[hdt];have hEN:=escQ_len s;have HTL:=Qh (fun i (h:i≤s.length)=>(show(escQ (s.take i)).length≤s.length+cqL s by
  rw[escQ_len,List.length_take];have:=cqL_take_le s i;omega))
 have hNp:0 < s.length+cqL s:=(by omega);have hNb:s.length+cqL s≤281474976702464:=(by omega);have HH:=Qh (fun h:s.length+cqL s=(escQ s).length=>h);generalize s.length+cqL s=N at *;have HEN:=Qh hEN;clear HH hdt h0 hq hEN;obtain⟨i0,hi,hz0,hz1,hz2⟩:=info_parts (P:=prog) (e:=5) (z:=.int .u8 0) (size:=1) (bytes:=1) (by kernel_rfl);have hwz:=hb.size;clear hb;go_wp2_with (at_make;refine wpList_make_full _ rfl _ _ 172 rfl w.heap.size 5 i0 (.int .u8 0) 1 underlying172 hi hz0 hz1 .i64 .i64 _ _ N rfl rfl rfl rfl (by rw[hz2];omega) (by unfold maxLen;omega) hwz ?_;intro w2 hown hgrow)
 have HB2:=Qh (bstep HB.out (Below.ofGrown hgrow) lrf);clear hgrow hi hz0 hz1 hz2 i0;have hblk:∃ cu:List Value,w2.heap[w1.heap.size]? = some (.cells cu.toArray 5 (0,0))∧cu.length=N:=by
  rcases hown.2 with ⟨hv,_⟩|⟨g,cap,cur,hv,hbg,hg,hle,hm,hcs,htk⟩
  ·cases hv
  ·cases hv
   exact⟨cur.toList,by simpa using hg,by simpa using hcs⟩
 obtain⟨cu0,hcu0,hcl0⟩:=hblk;have HCU0:=Qh hcu0;have HCL0:=Qh hcl0;clear hown hcu0 hcl0;have hgw:=hwz;obtain⟨g,hg⟩:∃ g,g=w1.heap.size:=⟨_,rfl⟩
 rw[← hg]at HCU0 hgw ⊢;clear hg hwz;go_wp2_with fail;go_loopw [13,14] (fun j x wr=>∃ (i:Nat) (cu:List Value),i≤s.length∧x=.int .i64 i∧j=.int .i64 ((escQ (s.take i)).length:Nat)∧wr.heap[g]? = some (.cells cu.toArray 5 (0,0))∧cu.length=N ∧
  cu.take (escQ (s.take i)).length=(escQ (s.take i)).map (fun c=>Value.int .u8 (c.toNat:Int))∧Below w.heap.size w wr) (fun _ x _=>s.length - (intOf x).toNat)
 case atStart=>exact⟨0,cu0,Nat.zero_le _,rfl,rfl,HCU0.out,HCL0.out,rfl,HB2.out⟩
 case round=>
  clear HCU0 HCL0 HB2;obtain⟨i,cu,hi,rfl,rfl,hblk,hcl,htk,hbel⟩:=hrel;have HBE:=Qh hbel;have HRr:=Qh (HR.out.keep hbel);have q34:=cell_keep' tq hbel;have q92:=cell_keep' tb hbel;have HTK:=Qh htk;have HBL:=Qh hblk;have HCL:=Qh hcl;clear hbel htk hblk hcl;by_cases hlt:i < s.length
  ·have hget:(⟨s.toArray⟩:ByteArray)[i]'hlt=s[i]:=rfl;have HT:=Qh (escQ_take s i hlt);have hJN:=HTL.out (i+1) hlt;rw[HT.out,List.length_append]at hJN;generalize escQ (s.take i)=X at *;generalize s[i]=c at *;by_cases h34:c=34
   ·subst h34;have hE:escB 34=[92,34]:=rfl;rw[hE]at HT hJN;have hc:(34:UInt8).toNat=34:=rfl;have hJ:X.length+2≤N:=(by simpa using hJN);have hJI:(X.length:Int)≤(N:Int):=(by omega);have hJl:X.length < N:=(by omega);have hJne:¬ N=X.length:=(by omega);have hqs:=HQ.out.keep HBE.out lrf;have HQr:=Qh hqs;clear hqs hJN;go_wp2_with fail;have hsrc:∀ j v,([.int .u8 92,.int .u8 34]:List Value)[j]? = some v→wr.cell? ((⟨gq,0,none⟩:Addr).add j)=some v:=fun j v hv=>by
     rw[Addr.add_lit];have hj:j < ([92,34]:List UInt8).length:=(List.getElem?_eq_some_iff.1 hv).1;obtain⟨b,o,e,_,h4⟩:=SlOf.cell1 HQr.out (fun x:UInt8=>.int .u8 (x.toNat:Int)) (fun _=>rfl) (k:=j) hj;cases e
     rw[h4];rcases (show j=0∨j=1 by simp at hj;omega)with rfl|rfl<;>exact hv
    have HSR:=Qh hsrc;have hmn:(2:Nat)=Nat.min 2 (N - X.length):=(Nat.min_eq_left (by omega)).symm;have HMN:=Qh hmn;clear hsrc hmn;have hwj:IntKind.i64.wrap ((X.length:Int)+2)=(X.length:Int)+2:=(by unfold IntKind.wrap;simp[IntKind.bits,IntKind.signed];omega);go_region_law (go_loud (refine step_copy_splice rfl (.tmp 105) (.tmp 111) 172 172 rfl 5 underlying172 (by kernel_rfl) (some ⟨g,X.length,none⟩) (some ⟨gq,0,none⟩) (N - X.length) (N - X.length) 2 kq rfl rfl g X.length cu 5 HBL.out [.int .u8 92,.int .u8 34] HMN.out (fun _=>⟨rfl,⟨gq,0,none⟩,rfl,HSR.out⟩) (by rw[HCL.out];exact hJ) (by simp[Value.oneCell']) w.heap.size w HBE.out.drew hgw ?_);intro w4 hg4 hb4)
    clear hwj hE hc hg34 hJne hJl;go_wp2_with fail;go_roundw;case rel=>exact⟨i+1,splice cu X.length [.int .u8 92,.int .u8 34],by omega,by go_num,by rw[HT.out,List.length_append];go_num,hg4.out,by rw[length_splice _ _ _ (by rw[HCL.out];exact hJ)];exact HCL.out,by rw[HT.out,List.length_append,List.map_append,← HTK.out];exact splice_take cu [.int .u8 92,.int .u8 34] X.length (by rw[HCL.out];omega),hb4⟩
    case measure=>simp[intOf];omega
   ·by_cases h92:c=92
    ·subst h92;have hE:escB 92=[92,92]:=rfl;rw[hE]at HT hJN;have hc:(92:UInt8).toNat=92:=rfl;have hJ:X.length+2≤N:=(by simpa using hJN);have hJI:(X.length:Int)≤(N:Int):=(by omega);have hJl:X.length < N:=(by omega);have hJne:¬ N=X.length:=(by omega);have hqs:=HS.out.keep HBE.out lrf;have HQr:=Qh hqs;clear hqs hJN;go_wp2_with fail;have hsrc:∀ j v,([.int .u8 92,.int .u8 92]:List Value)[j]? = some v→wr.cell? ((⟨gs,0,none⟩:Addr).add j)=some v:=fun j v hv=>by
      rw[Addr.add_lit];have hj:j < ([92,92]:List UInt8).length:=(List.getElem?_eq_some_iff.1 hv).1;obtain⟨b,o,e,_,h4⟩:=SlOf.cell1 HQr.out (fun x:UInt8=>.int .u8 (x.toNat:Int)) (fun _=>rfl) (k:=j) hj;cases e
      rw[h4];rcases (show j=0∨j=1 by simp at hj;omega)with rfl|rfl<;>exact hv
     have HSR:=Qh hsrc;have hmn:(2:Nat)=Nat.min 2 (N - X.length):=(Nat.min_eq_left (by omega)).symm;have HMN:=Qh hmn;clear hsrc hmn;have hwj:IntKind.i64.wrap ((X.length:Int)+2)=(X.length:Int)+2:=(by unfold IntKind.wrap;simp[IntKind.bits,IntKind.signed];omega);go_region_law (go_loud (refine step_copy_splice rfl (.tmp 105) (.tmp 111) 172 172 rfl 5 underlying172 (by kernel_rfl) (some ⟨g,X.length,none⟩) (some ⟨gs,0,none⟩) (N - X.length) (N - X.length) 2 ks rfl rfl g X.length cu 5 HBL.out [.int .u8 92,.int .u8 92] HMN.out (fun _=>⟨rfl,⟨gs,0,none⟩,rfl,HSR.out⟩) (by rw[HCL.out];exact hJ) (by simp[Value.oneCell']) w.heap.size w HBE.out.drew hgw ?_);intro w4 hg4 hb4)
     clear hwj hE hc hg92 hJne hJl;go_wp2_with fail;go_roundw;case rel=>exact⟨i+1,splice cu X.length [.int .u8 92,.int .u8 92],by omega,by go_num,by rw[HT.out,List.length_append];go_num,hg4.out,by rw[length_splice _ _ _ (by rw[HCL.out];exact hJ)];exact HCL.out,by rw[HT.out,List.length_append,List.map_append,← HTK.out];exact splice_take cu [.int .u8 92,.int .u8 92] X.length (by rw[HCL.out];omega),hb4⟩
     case measure=>simp[intOf];omega
    ·have hE:escB c=[c]:=(by unfold escB;rw[if_neg (by rintro (h|h);exact h92 h;exact h34 h)]);rw[hE]at hJN;have hcl:c.toNat < 256:=c.toNat_lt;have hcell:=HRr.out.nil c.toNat hcl (fun h=>h34 (UInt8.toNat.inj h)) (fun h=>h92 (UInt8.toNat.inj h));rw[hE]at HT;have hJ:X.length < N:=(by simp at hJN;omega);have HD:=Qh (show Blk wr g cu.toArray from ⟨_,HBL.out⟩);have hx:=HD.out.cell X.length (cu[X.length]'(by rw[HCL.out];exact hJ)) (by rw[List.getElem?_toArray,List.getElem?_eq_getElem]);have hf:=HD.out.free X.length;clear h34 h92 hE hJN;go_wp2_with fail;go_roundw;case rel=>exact⟨i+1,cu.set X.length (.int .u8 (c.toNat:Int)),by omega,by go_num,by rw[HT.out,List.length_append];go_num,heap_set HBL.out _ _,by rw[List.length_set];exact HCL.out,by rw[HT.out,List.length_append,List.map_append,← HTK.out];exact set_take cu _ _ (by rw[HCL.out];exact hJ),HBE.out.setCell (p:=⟨g,X.length,none⟩) hgw _⟩
     case measure=>simp[intOf];omega
  ·have:i=s.length:=by omega
   subst this;have htk:=HTK.out;rw[List.take_length,HEN.out,← HCL.out,List.take_length]at htk;have hbk:=HBL.out;rw[htk]at hbk;have hcv:=run_convert_bytes_back (P:=prog) wr 172 9 5 ⟨g,0,none⟩ N (escQ s) underlying172 underlying5 underlying9 (fun j hj=>by
    rw[Addr.add_lit,cell_of_row _ _ _ _ _ _ hbk,List.getElem?_toArray,List.getElem?_map,Nat.zero_add,List.getElem?_eq_getElem hj];rfl)
   rw[HEN.out]at hcv;clear htk hbk;go_wp2_with fail;go_ret;exact⟨rfl,HBE.out⟩
open Go.RowKit
theorem repMethod (fuel : Nat) (v : Value) (w : World) : (Go.method (fuel + 1) 295 v "Replace").run prog w = .ok (285, v) w := by kernel_rfl
set_option maxRecDepth 100000 in theorem replace_any (r g k : Nat) (base : Nat) (hr : base ≤ r) (s : List UInt8) (hs : s.length ≤ 140737488351232) (w : World) (hk : Blk w r #[.int .u32 0, .int .i32 0, .int .u32 0, .nilIface, .slice (some ⟨g, 0, none⟩) 4 k])
  (hsl:SlOf w enBs 1 (some ⟨g,0,none⟩) k escT) (hne:g≠r) :
  Calls prog 109 #[.pointer (some ⟨r,0,none⟩),.string ⟨s.toArray⟩] w fun e w'=>e=.returned (.string ⟨(escQ s).toArray⟩)∧Below base w w':=by
 have HD:=Qh (do_first r (.int .u32 0) .nilIface (.slice (some ⟨g,0,none⟩) 4 k) w hk base hr (fun u1 u2 w'=>∃ B,u1=repV B∧RepAt w' (r+1) B)
  (fun w1 hw1 hk1=>(buildOnce_any r g k _ _ _ _ base hr w1 hk1 (hsl.of_block fun b o e=>by cases e;exact hw1 g hne)).mono fun e w' ⟨he,hb,B,hB,hR⟩=>⟨he,hb,repV B,_,hB,B,rfl,hR⟩)
  (fun u1 u2 w1 w' ⟨B,hu,hR⟩ hw _=>⟨B,hu,hR.of_heap fun k hk _=>hw k (by omega)⟩))
 have hmf:∀ (fn:Fn) (first cap:Array Value) (w:World),(Instr.makeFunc fn first cap).run prog w=.ok (.func fn first cap) w:=fun _ _ _ _=>rfl
 have mR:=repMethod;have hrl0:=hk.lt;clear hk hsl hne;go_enter func109,ntmps109
 go_wp2_with fail;(with_reducible refine HD.out.mono ?_);rintro e w1 ⟨rfl,hb,u1,u2,hk1,B,rfl,hR⟩;have HB1:=Qh hb;have c3:=hk1.cell 3 _ rfl;have HRB:=Qh (replB_any (r+1) B s hs w1 hR);have hrl:=hk1.lt;clear HD hb hk1 hR;unfold repV at *;go_wp2_with fail;with_reducible refine(HRB.out).mono ?_
 rintro e w2 ⟨rfl,hb⟩;have HB2:=Qh (bstep HB1.out hb (by omega));clear hb;go_wp2_with fail;go_ret;exact⟨rfl,HB2.out⟩
def quoL (s:List UInt8):List UInt8:=34::(escQ s++[34])
theorem strs_appQ (A B:List UInt8):(⟨A.toArray⟩:ByteArray)++⟨B.toArray⟩=⟨(A++B).toArray⟩:=by
 have h:∀ (a b:ByteArray),a.data.toList=b.data.toList→a=b:=fun a b e=>by cases a;cases b;simp at e;rw[e]
 apply h;simp[ByteArray.data_append]
set_option maxRecDepth 100000 in theorem quote_any (s : List UInt8) (hs : s.length ≤ 140737488351232) (w : World) :
  Calls prog 82 #[.string ⟨s.toArray⟩] w fun e w'=>e=.returned (.string ⟨(quoL s).toArray⟩)∧Below w.heap.size w w':=by
 have HS:=Qh (SlOf.lit w enBs 1 (fun _=>rfl) escT #[.string ⟨#[92]⟩,.string ⟨#[92,92]⟩,.string ⟨#[34]⟩,.string ⟨#[92,34]⟩] 9 4 rfl rfl (by decide));have HB0:=Qh ((Below.refl w.heap.size w).alloc lrf (.cells #[.string ⟨#[92]⟩,.string ⟨#[92,92]⟩,.string ⟨#[34]⟩,.string ⟨#[92,34]⟩] 9));have hlen:=escQ_len s;have hle:=cqL_le s;have hbd:(escQ s).length≤281474976702464:=(by omega);have cR:=fun r g k base hr W hk hsl hne=>replace_any r g k base hr s hs W hk hsl hne
 clear hlen hle;obtain⟨X1,hX1⟩:∃ X,X=34::escQ s:=⟨_,rfl⟩
 obtain⟨X2,hX2⟩:∃ X,X=quoL s:=⟨_,rfl⟩
 have hap1:(⟨#[34]⟩:ByteArray)++⟨(escQ s).toArray⟩=⟨X1.toArray⟩:=(by rw[hX1];exact strs_appQ [34] (escQ s));have hap2:(⟨X1.toArray⟩:ByteArray)++⟨#[34]⟩=⟨X2.toArray⟩:=(by rw[hX1,hX2];exact strs_appQ (34::escQ s) [34]);have hl1:X1.length=(escQ s).length+1:=(by rw[hX1];rfl);have hl1b:X1.length≤281474976702465:=(by omega);have hn1:¬ (9223372036854775807 < 1+(escQ s).length):=(by omega);have hn2:¬ (9223372036854775807 < X1.length+1):=(by omega);rw[← hX2];clear hX1 hX2 hl1;generalize escQ s=E at *;go_enter func82,ntmps82
 go_wp2_with fail;generalize w.alloc (.cells #[.string ⟨#[92]⟩,.string ⟨#[92,92]⟩,.string ⟨#[34]⟩,.string ⟨#[92,34]⟩] 9)=w1 at *;with_reducible refine(newReplacer_any _ _ _ rfl _ HS.out).mono ?_
 rintro e w2 ⟨r,g',k',rfl,hb,hr,hk,hsl,hne⟩;have HB2:=Qh (bstep HB0.out hb lrf);have HC:=Qh (cR r g' k' w.heap.size (by have:=HB0.out.size;omega) w2 hk hsl hne);clear hb hk hsl hne cR HS HB0;go_wp2_with fail;(with_reducible refine HC.out.mono ?_);rintro e w3 ⟨rfl,hb⟩;have HB3:=Qh (HB2.out.trans hb);clear hb HC;go_wp2_with fail;go_ret;exact⟨rfl,HB3.out⟩
end Go.Proofs.YtkblpaabknjckaaGreatDoor
