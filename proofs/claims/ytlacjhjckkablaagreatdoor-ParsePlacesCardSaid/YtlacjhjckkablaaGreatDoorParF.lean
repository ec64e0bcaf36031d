/-
  The reference's Parse: contract.
-/
import Derived.Test.YtlacjhjckkablaaGreatDoorBaseD
import Derived.Test.YtlacjhjckkablaaGreatDoorParT
import Derived.Test.YtlacjhjckkablaaGreatDoorRefO
set_option maxHeartbeats 128000000
set_option linter.unusedVariables false
namespace Go.Proofs.YtlacjhjckkablaaGreatDoor
open Go.Proofs.Tryz
open Go.RowKit
def parseQ (R:Option (Bool×List UInt8×Int)):Value:=
 match R with
 | none=>.tuple #[.agg #[.int .i64 0,.int .i64 0],.int .i64 8]
 | some (neg,d,p)=>refV (parseF neg (valL d) p)
def parseW (s:List UInt8):Value:=
 if 96 < s.length then .tuple #[.agg #[.int .i64 0,.int .i64 0],.int .i64 3] else parseQ (readL s)
theorem len_mul2 {a b i j:Nat} (ha:(digs a).length≤i) (hb:(digs b).length≤j):(digs (a*b)).length≤i+j:=by
 rw[digs_len]at *;rw[Nat.pow_add];exact Nat.mul_lt_mul'' ha hb
def n0 (n:Nat):Prop:=True∧(0 < n→0 < (digs n).length)
theorem n0_of (n:Nat):n0 n:=⟨trivial,fun h=>by
 rcases Nat.eq_zero_or_pos (digs n).length with h0|h0
 ·have:=(digs_len n 0).1 (by omega);simp at this;omega
 ·exact h0⟩
theorem below_two {B g:Nat} {w w':World} (h:Below B w w') (hg:B≤g) (a b:Value):Below B w ((w'.setCell ⟨g,0,none⟩ a).setCell ⟨g,1,none⟩ b):=(h.setCell hg a).setCell hg b
theorem refV_shape2 (r:Option (Int×Int)):∃ x y k:Int,refV r=.tuple #[.agg #[.int .i64 x,.int .i64 y],.int .i64 k]:=by
 cases r with
 | none=>exact⟨0,0,9,rfl⟩
 | some p=>exact⟨p.1,p.2,0,rfl⟩
theorem digs96 {n k:Nat} (h:n < 10 ^ k) (hk:k≤300):(digs n).length≤32:=by
 refine(digs_len _ 32).2 (Nat.lt_of_lt_of_le h (Nat.le_trans (Nat.pow_le_pow_right (by decide) hk) ?_));decide +kernel
theorem cutP_len {s b r:List UInt8} (h:cutP s=some (b,r)):r.length≤s.length:=by
 unfold cutP at h;split at h
 ·cases h;simp
 ·rename_i c t
  split at h
  ·split at h
   ·cases h
   ·cases h
    have:=tw_dw_len t;rw[List.length_cons];omega
  ·cases h;exact lrf
theorem cutE_len {s p q:List UInt8} {down:Bool} (h:cutE s=some (down,p,q)):p.length≤s.length∧digL p:=by
 unfold cutE at h;split at h
 ·cases h;exact⟨by simp,fun c hc=>absurd hc (by simp)⟩
 ·rename_i c t
  split at h
  ·split at h
   ·cases h
   ·cases h
    have h1:=tw_dw_len (cutS t).2;have h2:=cutS_len t;exact⟨by rw[List.length_cons];omega,tw_dg _⟩
  ·cases h;exact⟨by simp,fun c hc=>absurd hc (by simp)⟩
theorem cut_facts {s a b p:List UInt8} {neg down:Bool} (h:cutL s=some (neg,down,a,b,p)):readL s=some (neg,a++b,sgP down (powL p) - (b.length:Int))∧digL p∧p.length≤s.length:=by
 constructor
 ·rw[read_cut,h];rfl
 ·unfold cutL at h;split at h
  ·cases h
  ·cases hp:cutP (dw (cutS s).2)with
   | none=>rw[hp]at h;cases h
   | some br=>
    obtain⟨b',r⟩:=br;rw[hp]at h;simp only at h;cases he:cutE r with
    | none=>rw[he]at h;cases h
    | some q=>
     obtain⟨down',pw,z⟩:=q;rw[he]at h;simp only at h;split at h
     ·simp only[Option.some.injEq,Prod.mk.injEq]at h;obtain⟨_,_,_,_,rfl⟩:=h;obtain⟨h1,h2⟩:=cutE_len he;have h3:=cutP_len hp;have h4:=tw_dw_len (cutS s).2;have h5:=cutS_len s;exact⟨h2,by omega⟩
     ·cases h
set_option maxRecDepth 100000 in theorem refparse_any (s : List UInt8) (hs : s.length ≤ 9223372036854775807) (w : World) :
  Calls prog 158 #[.string ⟨s.toArray⟩] w fun e w'=>e=.returned (parseW s)∧Below w.heap.size w w':=by
 obtain⟨F,hF⟩:∃ F,F=parseW s:=⟨_,rfl⟩
 rw[← hF];have HF:=Qh hF;clear hF;obtain⟨tr,hsz,hbw⟩:=box1 w #[.int .i64 0,.int .i64 0] 80;have TR:=Qh tr;have HBW:=Qh hbw;clear tr hbw;by_cases h96:(96:Int) < s.length
 ·have HN:=Qh (show F=.tuple #[.agg #[.int .i64 0,.int .i64 0],.int .i64 3]by rw[HF.out];unfold parseW;rw[if_pos (by omega)]);clear HF;go_enter func158,ntmps158
  go_wp2_with fail;generalize w.alloc (.cells #[.int .i64 0,.int .i64 0] 80)=W at *;obtain⟨r0,r1,r2,r3⟩:=TR.out.two;exact bodyPost_ret (v:=.tuple #[.agg #[.int .i64 0,.int .i64 0],.int .i64 3]) (by simp[results,results158,go_sem,r0,r1]) rfl ⟨by rw[HN.out],HBW.out⟩
 have cr:=cut_any s (by omega);have HF2:=Qh (show F=parseQ (readL s)by rw[HF.out];unfold parseW;rw[if_neg (by omega)]);have HFN:=Qh (show cutL s=none→readL s=none from fun h=>by rw[read_cut,h];rfl);have HFA:=Qh (fun neg down a b p (h:cutL s=some (neg,down,a,b,p))=>And.intro (cut_facts h) (read_facts (cut_facts h).1));clear HF;generalize cutL s=R at *;generalize readL s=RL at *;go_enter func158,ntmps158
 go_wp2_with fail;generalize w.alloc (.cells #[.int .i64 0,.int .i64 0] 80)=W at *;with_reducible refine(cr _).mono ?_
 rintro e w1 ⟨neg,down,a,b,p,ok,rfl,hb1,hok⟩;clear cr;have TR1:=Qh (TR.out.keep hb1 lrf);have HB1:=Qh (show Below w.heap.size w w1 from bstep HBW.out hb1 (by omega));have hs1:=Qh (show w.heap.size+1≤w1.heap.size by have:=hb1.size;omega);clear hb1 TR HBW hsz;obtain⟨tn,hsz,hbw⟩:=box1 w1 #[.bool neg,.bool down,.string ⟨a.toArray⟩,.string ⟨b.toArray⟩,.string ⟨p.toArray⟩] 304;have TN:=Qh tn;have TR2:=Qh (TR1.out.keep hbw lrf);have HB2:=Qh (show Below w.heap.size w (w1.alloc (.cells #[.bool neg,.bool down,.string ⟨a.toArray⟩,.string ⟨b.toArray⟩,.string ⟨p.toArray⟩] 304))from bstep HB1.out hbw (by have:=hs1.out;omega));clear tn hbw TR1 HB1;have HOK:=Qh hok;clear hok;cases ok
 ·have HN:=Qh (show F=.tuple #[.agg #[.int .i64 0,.int .i64 0],.int .i64 8]by
   rw[HF2.out];have h:=HOK.out;cases R with
   | none=>rw[HFN.out rfl];rfl
   | some x=>exact absurd h.1 (by decide))
  obtain⟨r0,r1,r2,r3⟩:=TR2.out.two;go_wp2_with fail;generalize w1.alloc (.cells #[.bool neg,.bool down,.string ⟨a.toArray⟩,.string ⟨b.toArray⟩,.string ⟨p.toArray⟩] 304)=W2 at *;exact bodyPost_ret (v:=.tuple #[.agg #[.int .i64 0,.int .i64 0],.int .i64 8]) (by simp[results,results158,go_sem,r0,r1]) rfl ⟨by rw[HN.out],(HB2.out.setCell (by simp) _).setCell (by simp) _⟩
 ·have hR:R=some (neg,down,a,b,p):=by
   have h:=HOK.out;cases R with
   | none=>exact absurd (show true=false from h) (by decide)
   | some x=>rw[h.2]
  obtain⟨⟨hrl,hpd,hpl⟩,hdg,hdl,hp1,hp2⟩:=HFA.out neg down a b p hR;have HF3:=Qh (show F=refV (parseF neg (valL (a++b)) (sgP down (powL p) - (b.length:Int)))by rw[HF2.out,hrl];rfl);have HDG:=Qh hdg;have HPD:=Qh hpd;have hal:a.length+b.length≤96:=(by rw[List.length_append]at hdl;omega);clear HF2 HFA HFN HOK hR hdg hpd hrl hp1 hp2 hdl;have hst:=strA a b;have hl3:¬ 9223372036854775807 < a.length+b.length:=(by omega);have hl4:a.length < 9223372036854775807:=(by omega);have hl5:b.length < 9223372036854775807:=(by omega);go_upto_region 9 with fail
  generalize w1.alloc (.cells #[.bool neg,.bool down,.string ⟨a.toArray⟩,.string ⟨b.toArray⟩,.string ⟨p.toArray⟩] 304)=W2 at *;have HNB:=Qh (show w1.heap.size≠w.heap.size by have:=hs1.out;omega);generalize hA:w1.heap.size=A at *;have hll:(a++b).length≤96:=(by rw[List.length_append];exact hal);clear hA hst hl3 hl4 hl5;generalize a++b=L at *;have cf10:∀ w,Calls prog 182 #[.int .u64 10] w (RetNat w 10):=fun w=>from_any 10 (by decide) w
  go_loopw [7,8] (fun v x ws=>∃ k:Nat,x=.int .i64 (k:Nat)∧k≤L.length∧NatV ws v (valL (L.take k))∧Blk ws w.heap.size #[.int .i64 0,.int .i64 0]∧Blk ws A #[.bool neg,.bool down,.string ⟨a.toArray⟩,.string ⟨b.toArray⟩,.string ⟨p.toArray⟩]∧Below w.heap.size w ws) (fun _ x _=>L.length - (intOf x).toNat)
  case atStart=>exact⟨0,rfl,Nat.zero_le _,natV_nil _,TR2.out,TN.out,HB2.out⟩
  case round=>
   clear TR2 TN HB2 hsz;obtain⟨k,rfl,hk,⟨a0,c0,rfl,hsv⟩,tr,tn,hb⟩:=hrel;have HSV:=Qh hsv;have TR:=Qh tr;have TN:=Qh tn;have HB:=Qh hb;clear hsv tr tn hb;have hmlt:valL (L.take k) < 10 ^ 96:=by
    have h:=valL_lt (l:=L.take k) (fun c hc=>HDG.out c (List.mem_of_mem_take hc));exact Nat.lt_of_lt_of_le h (Nat.pow_le_pow_right (by decide) (by rw[List.length_take];omega))
   by_cases hlt:(k:Int) < L.length
   ·have hlt':k < L.length:=(by omega);have hget:(⟨L.toArray⟩:ByteArray)[k]'hlt' = L[k]:=rfl;have hc:=(isDg_iff L[k]).1 (HDG.out _ (List.getElem_mem hlt'));have HSN:=Qh (show valL (L.take (k+1))=10*valL (L.take k)+(L[k].toNat - 48)by rw[List.take_succ_eq_append_getElem hlt',valL_snoc]);have hml:=digs96 hmlt (by decide);generalize L[k]=c at *;obtain⟨q,hqd⟩:∃ q,q=c.toNat - 48:=⟨_,rfl⟩
    rw[← hqd]at HSN;have hq:(c.toNat:Int) - 48=(q:Int):=(by omega);have hq9:q≤9:=(by omega);have cfq:∀ w,Calls prog 182 #[.int .u64 (q:Nat)] w (RetNat w q):=fun w=>from_any q (by omega) w
    have hml2:(digs (valL (L.take k)*10)).length≤100:=Nat.le_trans (len_mul2 hml (digs1 (n:=10) (by decide))) (by decide);have WQ:=Qh (show IntKind.u8.wrap (q:Int)=(q:Int)∧IntKind.u64.wrap (q:Int)=(q:Int)by unfold IntKind.wrap;simp[IntKind.bits,IntKind.signed];omega);clear hqd hc hmlt;generalize valL (L.take k)=m at *;go_upto_region 11 with fail
    refine wp_region_held_drew (S:=(fun (w':World)=>Below wr.heap.size wr w')) (by kernel_rfl) (Below.refl _ _).drew (fun hHeld=>?_);refine hT 0 ?_;try simp only[spt]
    refine hT 3 ?_;try simp only[spt]
    refine hT 4 ?_;try simp only[spt]
    refine hT 5 ?_;try simp only[spt]
    refine hT 6 ?_;try simp only[spt]
    refine hT 7 ?_;try simp only[spt]
    refine held_call 1 rfl (by kernel_rfl) (fun K hK=>?_);go_simp;with_reducible refine(cf10 _).mono ?_
    rintro e w3 ⟨_,rfl,⟨a3,c3,rfl,hs3⟩,hf3,hbk⟩;refine hK.out _ _ ?_ (fun hHeld=>?_)
    ·first|exact hHeld|exact bstep hHeld hbk lrf
    clear hK K;try simp only[spt]
    refine held_call 2 rfl (by kernel_rfl) (fun K hK=>?_);go_simp;with_reducible refine(times_any m 10 a0 a3 c0 c3 (by omega) (by have:=digs1 (n:=10) (by decide);omega) _ (HSV.out.keep hHeld lrf) hs3).mono ?_
    rintro e w4 ⟨_,rfl,⟨a4,c4,rfl,hs4⟩,hf4,hbk⟩;refine hK.out _ _ ?_ (fun hHeld=>?_)
    ·first|exact hHeld|exact bstep hHeld hbk lrf
    clear hK K;try simp only[spt]
    refine held_call 8 rfl (by kernel_rfl) (fun K hK=>?_);go_simp;rw[WQ.out.1,WQ.out.2];with_reducible refine(cfq _).mono ?_
    rintro e w5 ⟨_,rfl,⟨a5,c5,rfl,hs5⟩,hf5,hbk⟩;have hb5:=hbk;refine hK.out _ _ ?_ (fun hHeld=>?_)
    ·first|exact hHeld|exact bstep hHeld hbk lrf
    clear hK K;try simp only[spt]
    refine held_call 9 rfl (by kernel_rfl) (fun K hK=>?_);go_simp;with_reducible refine(plus_any (m*10) q a4 a5 c4 c5 (by omega) (by have:=digs1 (n:=q) (by omega);omega) _ (hs4.keep hb5 lrf) hs5).mono ?_
    rintro e w6 ⟨v6,rfl,hn6,hf6,hbk⟩;refine hK.out _ _ ?_ (fun hHeld=>?_)
    ·first|exact hHeld|exact bstep hHeld hbk lrf
    clear hK K;try simp only[spt]
    refine hT 10 ?_;try simp only[spt]
    refine wpAnyH_done (by kernel_rfl) ?_ _;have HH:=Qh hHeld;have HN6:=Qh hn6;clear hHeld hn6 hf3 hf4 hf5 hf6 hs3 hs4 hs5 hbk hb5 cf10 cfq;go_wp2_with fail;go_roundw;case rel=>exact⟨k+1,by first|rfl|go_num,by omega,by rw[HSN.out,Nat.mul_comm 10];exact HN6.out,TR.out.keep HH.out lrf,TN.out.keep HH.out lrf,bstep HB.out HH.out lrf⟩
    case measure=>(simp[intOf]<;>omega)
   ·obtain rfl:k=L.length:=by omega
    rw[List.take_length]at HSV hmlt ⊢;clear cf10;have hpw:powL p≤1000:=powS_le p 0 (by decide);have cpw:=power_any p (by omega) HPD.out;have hdn:n0 (valL L):=n0_of _;generalize valL L=n at *;clear HDG HPD;rcases Nat.eq_zero_or_pos n with hn|hn
    ·subst hn;have hd0:(digs 0).length=0:=(by rw[digs_zero];rfl);have HN:=Qh (show F=refV (some (0,1))by rw[HF3.out];unfold parseF;rw[Nat.zero_mul,frac_zero]);obtain⟨r0,r1,r2,r3⟩:=TR.out.two;clear HF3 hdn cpw hmlt;go_wp2_with fail;exact bodyPost_ret (v:=.tuple #[.agg #[.int .i64 0,.int .i64 1],.int .i64 0]) (by simp[results,results158,go_sem,r0,r1]) rfl ⟨by rw[HN.out];rfl,(HB.out.setCell (by simp) _).setCell (by simp) _⟩
    ·have hd0:(((digs n).length:Int) == 0)=false:=(by rw[beq_eq_false_iff_ne];have:=hdn.2 hn;omega);have hdl:(digs n).length≤32:=digs96 hmlt (by decide);obtain⟨x0,x1,x2,x3,x4,_⟩:=TN.out.five;clear hdn;generalize powL p=pw at *;obtain⟨sp,hsp⟩:∃ sp,sp=sgP down pw:=⟨_,rfl⟩
     rw[← hsp]at HF3;have hsp1:-1000≤sp:=(by rw[hsp];unfold sgP;split<;>omega);have hsp2:sp≤1000:=(by rw[hsp];unfold sgP;split<;>omega);have HSP:=Qh hsp;clear hsp;go_wp2_with fail;with_reducible refine(cpw _).mono ?_
     rintro e w3 ⟨rfl,rfl⟩;clear cpw;go_upto_if 51 with (fail)
     go_cut [9] (fun x ws=>x=.int .i64 sp∧ws=w3)
     case first=>
      cases down
      ·go_wp2_with fail;go_meet
       case rel=>exact⟨by rw[HSP.out];rfl,rfl⟩
      ·go_wp2_with fail;go_meet
       case rel=>exact⟨by rw[HSP.out];rfl,rfl⟩
     case rest=>
      obtain⟨rfl,rfl⟩:=hcut;obtain⟨wr,hwr⟩:∃ x,x=wc:=⟨_,rfl⟩
      subst hwr;clear HSP;obtain⟨ex,hex⟩:∃ ex,ex=sp - (b.length:Int):=⟨_,rfl⟩
      rw[← hex]at HF3;have hex':sp - (b.length:Int)=ex:=hex.symm;have hx1:ex≤1000:=(by omega);have hx2:-1100≤ex:=(by omega);clear hex;by_cases hpos:0≤ex
      ·by_cases h100:100 < ex
       ·have HN:=Qh (show F=refV none by rw[HF3.out,over_hi hn h100]);obtain⟨r0,r1,r2,r3⟩:=TR.out.two;clear HF3;go_wp2_with fail;exact bodyPost_ret (v:=.tuple #[.agg #[.int .i64 0,.int .i64 0],.int .i64 9]) (by simp[results,results158,go_sem,r0,r1]) rfl ⟨by rw[HN.out];rfl,(HB.out.setCell (by simp) _).setCell (by simp) _⟩
       obtain⟨k,rfl⟩:∃ k:Nat,ex=(k:Int):=⟨ex.toNat,by omega⟩
       have HF5:=Qh (show F=refV (frac neg (n*10 ^ k) 1)by
        rw[HF3.out];unfold parseF;rw[show(k:Int).toNat=k by omega,show(-(k:Int)).toNat=0 by omega,Nat.pow_zero])
       have cf1:∀ w,Calls prog 182 #[.int .u64 1] w (RetNat w 1):=fun w=>from_any 1 (by decide) w
       obtain⟨V,hV⟩:∃ V,V=refV (frac neg (n*10 ^ k) 1):=⟨_,rfl⟩
       obtain⟨X,Y,kk,hsh⟩:=refV_shape2 (frac neg (n*10 ^ k) 1);have HV:=Qh (show F=.tuple #[.agg #[.int .i64 X,.int .i64 Y],.int .i64 kk]by rw[HF5.out,hsh]);have HSH:=Qh hsh;clear hsh hV V HF3 HF5;go_upto_region 21 with fail
       refine wp_region_held_drew (S:=(fun (w':World)=>w'.cell? ⟨A,0,none⟩=some (.bool neg)∧Below w.heap.size w w'∧∃ x y,Blk w' w.heap.size #[x,y])) (by kernel_rfl) ⟨x0,HB.out.drew,_,_,TR.out.keep (Below.refl _ _).drew lrf⟩ (fun hHeld=>?_);refine hT 0 ?_;try simp only[spt]
       refine hT 1 ?_;try simp only[spt]
       refine hT 2 ?_;try simp only[spt]
       refine hT 3 ?_;try simp only[spt]
       refine held_call 4 rfl (by kernel_rfl) (fun K hK=>?_);go_simp;with_reducible refine(ten_big k (by omega) _).mono ?_
       rintro e w4 ⟨_,rfl,⟨a4,c4,rfl,hs4⟩,hf4,hbk⟩;have hs0:=(HSV.out.keep (Below.refl wr.heap.size wr).drew lrf).keep hbk lrf;refine hK.out _ _ ?_ (fun hHeld=>?_)
       ·first|exact hHeld|exact⟨cell_keep' hHeld.1 hbk,bstep hHeld.2.1 hbk lrf,hHeld.2.2.imp fun _=>Exists.imp fun _ h=>h.keep hbk lrf⟩
       clear hK K;try simp only[spt]
       refine held_call 5 rfl (by kernel_rfl) (fun K hK=>?_);go_simp;with_reducible refine(times_any n (10 ^ k) a0 a4 c0 c4 (by omega) (by have:=pow300 (j:=k) (by omega);omega) _ hs0 hs4).mono ?_
       rintro e w5 ⟨_,rfl,⟨a5,c5,rfl,hs5⟩,hf5,hbk⟩;refine hK.out _ _ ?_ (fun hHeld=>?_)
       ·first|exact hHeld|exact⟨cell_keep' hHeld.1 hbk,bstep hHeld.2.1 hbk lrf,hHeld.2.2.imp fun _=>Exists.imp fun _ h=>h.keep hbk lrf⟩
       clear hK K;try simp only[spt]
       refine held_call 6 rfl (by kernel_rfl) (fun K hK=>?_);go_simp;with_reducible refine(cf1 _).mono ?_
       rintro e w6 ⟨_,rfl,⟨a6,c6,rfl,hs6⟩,hf6,hbk⟩;have hb6:=hbk;refine hK.out _ _ ?_ (fun hHeld=>?_)
       ·first|exact hHeld|exact⟨cell_keep' hHeld.1 hbk,bstep hHeld.2.1 hbk lrf,hHeld.2.2.imp fun _=>Exists.imp fun _ h=>h.keep hbk lrf⟩
       clear hK K;try simp only[spt]
       refine hT 7 ?_;try simp only[spt]
       refine held_call 8 rfl (by kernel_rfl) (fun K hK=>?_);go_simp;with_reducible refine(lowest_any neg (n*10 ^ k) 1 (by decide) (Nat.le_trans (len_mul2 hdl (pow300 (j:=k) (by omega))) (by decide)) (by have:=digs1 (n:=1) (by decide);omega) a5 a6 c5 c6 _ (hs5.keep hb6 lrf) hs6).mono ?_
       rw[HSH.out];rintro e w7 ⟨rfl,hbk⟩;refine hK.out _ _ ?_ (fun hHeld=>?_)
       ·first|exact hHeld|exact⟨cell_keep' hHeld.1 hbk,bstep hHeld.2.1 hbk lrf,hHeld.2.2.imp fun _=>Exists.imp fun _ h=>h.keep hbk lrf⟩
       clear hK K;try simp only[spt]
       refine hT 9 ?_;try simp only[spt]
       refine hT 10 ?_;try simp only[spt]
       refine held_call 11 rfl (by kernel_rfl) (fun K hK=>?_);obtain⟨q0,q1,hq⟩:=hHeld.2.2;obtain⟨z0,z1,z2,z3⟩:=hq.two;have HQ:=Qh (((hq.set 0 (.int .i64 X)).set 1 (.int .i64 Y)));have HC:=Qh hHeld.1;have HBW2:=Qh (below_two hHeld.2.1 (Nat.le_refl w.heap.size) (.int .i64 X) (.int .i64 Y));go_simp;refine hK.out _ _ ?_ (fun hHeld2=>?_)
       ·exact⟨by have h1:=HC.out;have h2:=HNB.out;go_simp,HBW2.out,_,_,HQ.out⟩
       clear hK K hHeld z0 z1 z2 z3 hq;try simp only[spt]
       refine hT 12 ?_;try simp only[spt]
       refine wpAnyH_done (by kernel_rfl) ?_ _;obtain⟨z0,z1,z2,z3⟩:=HQ.out.two;go_wp2_with fail;exact bodyPost_ret (v:=.tuple #[.agg #[.int .i64 X,.int .i64 Y],.int .i64 kk]) (by simp[results,results158,go_sem,z0,z1]) rfl ⟨by rw[HV.out],HBW2.out⟩
      ·by_cases h200:ex < -200
       ·have HN:=Qh (show F=refV none by rw[HF3.out,over_lo hn hmlt h200]);obtain⟨r0,r1,r2,r3⟩:=TR.out.two;clear HF3;go_wp2_with fail;exact bodyPost_ret (v:=.tuple #[.agg #[.int .i64 0,.int .i64 0],.int .i64 9]) (by simp[results,results158,go_sem,r0,r1]) rfl ⟨by rw[HN.out];rfl,(HB.out.setCell (by simp) _).setCell (by simp) _⟩
       obtain⟨k,hk2⟩:∃ k:Nat,-ex=(k:Int):=⟨(-ex).toNat,by omega⟩
       have WK:=Qh (show IntKind.i64.wrap (k:Int)=(k:Int)by unfold IntKind.wrap;simp[IntKind.bits,IntKind.signed];omega);have HF5:=Qh (show F=refV (frac neg n (10 ^ k))by
        rw[HF3.out];unfold parseF;rw[show ex.toNat=0 by omega,show(-ex).toNat=k by omega,Nat.pow_zero,Nat.mul_one])
       obtain⟨V,hV⟩:∃ V,V=refV (frac neg n (10 ^ k)):=⟨_,rfl⟩
       obtain⟨X,Y,kk,hsh⟩:=refV_shape2 (frac neg n (10 ^ k));have HV:=Qh (show F=.tuple #[.agg #[.int .i64 X,.int .i64 Y],.int .i64 kk]by rw[HF5.out,hsh]);have HSH:=Qh hsh;clear hsh hV V HF3 HF5;go_upto_region 24 with fail
       refine wp_region_held_drew (S:=(fun (w':World)=>w'.cell? ⟨A,0,none⟩=some (.bool neg)∧Below w.heap.size w w'∧∃ x y,Blk w' w.heap.size #[x,y])) (by kernel_rfl) ⟨x0,HB.out.drew,_,_,TR.out.keep (Below.refl _ _).drew lrf⟩ (fun hHeld=>?_);refine hT 0 ?_;try simp only[spt]
       refine hT 1 ?_;try simp only[spt]
       refine hT 2 ?_;try simp only[spt]
       refine hT 3 ?_;try simp only[spt]
       refine hT 4 ?_;try simp only[spt]
       refine held_call 5 rfl (by kernel_rfl) (fun K hK=>?_);go_simp;rw[WK.out];with_reducible refine(ten_big k (by omega) _).mono ?_
       rintro e w4 ⟨_,rfl,⟨a4,c4,rfl,hs4⟩,hf4,hbk⟩;have hs0:=(HSV.out.keep (Below.refl wr.heap.size wr).drew lrf).keep hbk lrf;refine hK.out _ _ ?_ (fun hHeld=>?_)
       ·first|exact hHeld|exact⟨cell_keep' hHeld.1 hbk,bstep hHeld.2.1 hbk lrf,hHeld.2.2.imp fun _=>Exists.imp fun _ h=>h.keep hbk lrf⟩
       clear hK K;try simp only[spt]
       refine hT 6 ?_;try simp only[spt]
       refine held_call 7 rfl (by kernel_rfl) (fun K hK=>?_);go_simp;with_reducible refine(lowest_any neg n (10 ^ k) (p10 k) (by omega) (by have:=pow300 (j:=k) (by omega);omega) a0 a4 c0 c4 _ hs0 hs4).mono ?_
       rw[HSH.out];rintro e w7 ⟨rfl,hbk⟩;refine hK.out _ _ ?_ (fun hHeld=>?_)
       ·first|exact hHeld|exact⟨cell_keep' hHeld.1 hbk,bstep hHeld.2.1 hbk lrf,hHeld.2.2.imp fun _=>Exists.imp fun _ h=>h.keep hbk lrf⟩
       clear hK K;try simp only[spt]
       refine hT 8 ?_;try simp only[spt]
       refine hT 9 ?_;try simp only[spt]
       refine held_call 10 rfl (by kernel_rfl) (fun K hK=>?_);obtain⟨q0,q1,hq⟩:=hHeld.2.2;obtain⟨z0,z1,z2,z3⟩:=hq.two;have HQ:=Qh (((hq.set 0 (.int .i64 X)).set 1 (.int .i64 Y)));have HC:=Qh hHeld.1;have HBW2:=Qh (below_two hHeld.2.1 (Nat.le_refl w.heap.size) (.int .i64 X) (.int .i64 Y));go_simp;refine hK.out _ _ ?_ (fun hHeld2=>?_)
       ·exact⟨by have h1:=HC.out;have h2:=HNB.out;go_simp,HBW2.out,_,_,HQ.out⟩
       clear hK K hHeld z0 z1 z2 z3 hq;try simp only[spt]
       refine hT 11 ?_;try simp only[spt]
       refine wpAnyH_done (by kernel_rfl) ?_ _;obtain⟨z0,z1,z2,z3⟩:=HQ.out.two;go_wp2_with fail;exact bodyPost_ret (v:=.tuple #[.agg #[.int .i64 X,.int .i64 Y],.int .i64 kk]) (by simp[results,results158,go_sem,z0,z1]) rfl ⟨by rw[HV.out],HBW2.out⟩
end Go.Proofs.YtlacjhjckkablaaGreatDoor
