/-
  strings.ContainsRune at the signs: contract, at every rune.
-/
import Derived.Test.YtkblpaabknjckaaGreatDoorBaseD
import Derived.Test.YtkblpaabknjckaaGreatDoorLexM
import Derived.Test.YtkblpaabknjckaaGreatDoorLexB
import Derived.Test.YtkblpaabknjckaaGreatDoorChrE
import Derived.Test.YtkblpaabknjckaaGreatDoorCalm
import Derived.BigQuiet
import Derived.WalkMore
set_option maxHeartbeats 128000000
set_option linter.unusedVariables false
namespace Go.Proofs.YtkblpaabknjckaaGreatDoor
open Go.Proofs.Tryz
open Go.RowKit Go.Shelf
theorem is_nilA (n:Int) (w:World) :
  Calls prog 30 #[.nilIface,.iface 50 (.int .i64 n)] w fun e w'=>e=.returned (.bool false)∧w' = w:=by
 have he:∀ w:World,(binOp .eql 25 .nilIface (.iface 50 (.int .i64 n))).run prog w=.ok (.bool false) w:=fun w=>by kernel_rfl
 go_enter func30,ntmps30
 go_wp2_with fail;go_ret;exact⟨rfl,rfl⟩
theorem ext_to (L:List UInt8) (j:Nat):(⟨L.toArray⟩:ByteArray).extract 0 j=⟨(L.take j).toArray⟩:=by
 have h:∀ (a b:ByteArray),a.data.toList=b.data.toList→a=b:=fun a b e=>by cases a;cases b;simp at e;rw[e]
 apply h;rw[Go.Lib.extract_data];show(L.drop 0).take (j - 0)=L.take j;rw[List.drop_zero,Nat.sub_zero]
theorem Blk.four {w:World} {k:Nat} {a b c d:Value} (h:Blk w k #[a,b,c,d]):(w.cell? ⟨k,0,none⟩=some a∧w.cell? ⟨k,1,none⟩=some b∧w.cell? ⟨k,2,none⟩=some c∧w.cell? ⟨k,3,none⟩=some d)∧w.frozen? ⟨k,0,none⟩=false∧w.frozen? ⟨k,1,none⟩=false∧w.frozen? ⟨k,2,none⟩=false∧w.frozen? ⟨k,3,none⟩=false:=
 ⟨⟨h.cell 0 _ rfl,h.cell 1 _ rfl,h.cell 2 _ rfl,h.cell 3 _ rfl⟩,h.free 0,h.free 1,h.free 2,h.free 3⟩
theorem below_set4 {B k:Nat} {w W:World} (h:Below B w W) (hk:B≤k) (a b c d:Value):Below B w ((((W.setCell ⟨k,0,none⟩ a).setCell ⟨k,1,none⟩ b).setCell ⟨k,2,none⟩ c).setCell ⟨k,3,none⟩ d):=
 (((h.setCell (p:=⟨k,0,none⟩) hk _).setCell (p:=⟨k,1,none⟩) hk _).setCell (p:=⟨k,2,none⟩) hk _).setCell (p:=⟨k,3,none⟩) hk _
def tokV (k:Int) (t:List UInt8) (p:Int×Int):Value:=.agg #[.int .i64 k,.string ⟨t.toArray⟩,.int .i64 p.1,.int .i64 p.2]
def tokE (n:Nat):Value:=.tuple #[tokV 0 [] (0,0),.int .i64 0,.int .i64 (n:Nat)]
def tokG (k:Int) (t:List UInt8) (n:Nat):Value:=.tuple #[tokV k t (0,0),.int .i64 (n:Nat),.int .i64 0]
def textF (s:List UInt8):Option Nat→Value
 | none=>tokE 6
 | some i=>match unqL (s.take (i+1))with
  | .bad n=>if n=5 then tokE 5 else tokE 6
  | .good t=>tokG 3 t (i+1)
def textT (s:List UInt8):Value:=textF s (endQ false 1 (s.drop 1))
set_option maxRecDepth 100000 in theorem text_any (s : List UInt8) (hs : s.length ≤ 1000000000) (hq : s.head? = some 34) (w : World) (hT : TabsU w) :
  Calls prog 72 #[.string ⟨s.toArray⟩] w fun e w'=>e=.returned (textT s)∧Below w.heap.size w w':=by
 obtain⟨V,hV⟩:∃ V,V=textT s:=⟨_,rfl⟩
 rw[← hV];have HV:=Qh hV;have HT:=Qh hT;have HQ:=Qh hq;clear hV hT hq;have hb0:Below w.heap.size w ((w.alloc (.cells #[.int .i64 0,.string ⟨#[]⟩,.int .i64 0,.int .i64 0] 97)).iter ⟨s.toArray⟩ 0):=((Below.refl _ w).alloc lrf _).alloc (by simp) _;have ht0:Blk ((w.alloc (.cells #[.int .i64 0,.string ⟨#[]⟩,.int .i64 0,.int .i64 0] 97)).iter ⟨s.toArray⟩ 0) w.heap.size #[.int .i64 0,.string ⟨#[]⟩,.int .i64 0,.int .i64 0]:=(Blk.new w #[.int .i64 0,.string ⟨#[]⟩,.int .i64 0,.int .i64 0] 97).alloc _;have hi0:((w.alloc (.cells #[.int .i64 0,.string ⟨#[]⟩,.int .i64 0,.int .i64 0] 97)).iter ⟨s.toArray⟩ 0).heap[w.heap.size+1]? = some (.stringIter ⟨s.toArray⟩ 0):=by
  have:=World.iter_heap (w.alloc (.cells #[.int .i64 0,.string ⟨#[]⟩,.int .i64 0,.int .i64 0] 97)) ⟨s.toArray⟩ 0
  rwa [World.size_alloc]at this
 go_enter func72,ntmps72
 go_wp2_with fail;generalize (w.alloc (.cells #[.int .i64 0,.string ⟨#[]⟩,.int .i64 0,.int .i64 0] 97)).iter ⟨s.toArray⟩ 0=W0 at *;go_loopw [5] (fun x wr=>∃ (k:Nat) (tk:Bool),x=.bool tk∧k≤s.length∧wr.heap[w.heap.size+1]? = some (.stringIter ⟨s.toArray⟩ k)∧Blk wr w.heap.size #[.int .i64 0,.string ⟨#[]⟩,.int .i64 0,.int .i64 0]∧Below w.heap.size w wr∧(k=0→tk=false)∧(0 < k→V=textF s (endQ tk k (s.drop k))))
  (fun _ wr=>s.length - wr.iterPos (w.heap.size+1))
 case atStart=>exact⟨0,false,rfl,Nat.zero_le _,hi0,ht0,hb0,fun _=>rfl,fun h=>absurd h (Nat.lt_irrefl _)⟩
 case round=>
  clear hi0 ht0 hb0;obtain⟨k,tk,rfl,hk,hit,hbk,hbw,hz,hr⟩:=hrel;have HZ:=Qh hz;have HR:=Qh hr;have HM:=Qh (iterPos_of hit:wr.iterPos (w.heap.size+1)=k);clear hz hr;by_cases hlt:k < s.length
  ·have hd:=List.drop_eq_getElem_cons hlt;have HLO:=Qh (fun (h:(decL (s.drop k)).1 < 128)=>(by rw[hd]at h ⊢;exact dec_low _ _ h:decL (s.drop k)=(s[k].toNat,1)∧s[k].toNat < 128));have hps:k < (⟨s.toArray⟩:ByteArray).size:=hlt;have hne:s.drop k≠[]:=(by intro h;have:=congrArg List.length h;rw[List.length_drop]at this;simp at this;omega);have hnx:∀ ty,(Instr.next (.pointer (some ⟨w.heap.size+1,0,none⟩)) true ty).run prog wr=_:=fun ty=>Lib.run_next_any_at wr (w.heap.size+1) ⟨s.toArray⟩ k ty hit hps
   rw[dec_drop]at hnx;obtain⟨n1,n2,n3⟩:=dec_w (s.drop k);replace n3:=n3 hne;rw[List.length_drop]at n3;have hit2:=Lib.iterAt_heap wr (w.heap.size+1) ⟨s.toArray⟩ k (k+(decL (s.drop k)).2) hit;have hbw2:=Lib.below_iterAt hbw (k:=w.heap.size+1) (by omega) ⟨s.toArray⟩ (k+(decL (s.drop k)).2);have hbk2:Blk (wr.iterAt (w.heap.size+1) ⟨s.toArray⟩ (k+(decL (s.drop k)).2)) w.heap.size _:=hbk.same (Lib.iterAt_other _ _ _ _ _ (by omega));have HUN:=Qh (fun (b:Bool) (h:128≤(decL (s.drop k)).1)=>endQ_unit b k (s.drop k) hne h);have HD:=Qh hd;have HBW:=Qh hbw2;have HIT:=Qh hit2;have HBK:=Qh hbk2;clear hd hbw hbw2 hit2 hbk hbk2 hit hps hne;by_cases hk0:k=0
   · -- the opening quote
    subst hk0;have htk:=HZ.out rfl;subst htk;have h34:s[0]=34:=by
     have:=HQ.out;rw[List.head?_eq_getElem?,List.getElem?_eq_getElem hlt]at this;exact Option.some.inj this
    have hdec:decL (s.drop 0)=(34,1):=by
     have:=dec_ascii s[0] (s.drop (0+1)) (by rw[h34];decide);rw[← HD.out,h34]at this;exact this
    have HV1:=Qh (show V=textF s (endQ false (0+1) (s.drop (0+1)))from HV.out);rw[hdec]at hnx HIT HBW HBK;simp only at hnx HIT HBW HBK;clear HD HLO HUN n1 n2 n3 HV h34 hdec HR HZ;generalize wr.iterAt (w.heap.size+1) ⟨s.toArray⟩ (0+1)=wv at *;go_wp2_with fail;go_roundw;case rel=>exact⟨0+1,false,rfl,by omega,HIT.out,HBK.out,HBW.out,fun h=>by omega,fun _=>HV1.out⟩
    case measure=>rw[iterPos_of HIT.out,HM.out];omega
   ·have hVk:=HR.out (by omega);have gk0:((k:Int) == 0)=false:=(by rw[beq_eq_false_iff_ne];omega);clear HZ HR HV hk0;cases tk
    · -- no backslash ahead
     by_cases h92:(decL (s.drop k)).1=92
     ·obtain⟨he,hlo⟩:=HLO.out (by omega);have hc:s[k]=92:=UInt8.toNat.inj (by have e:UInt8.toNat 92=92:=rfl;rw[e,← h92,he]);rw[he]at hnx HIT HBW HBK n1 n2 n3;rw[he]at h92;simp only at hnx HIT HBW HBK n1 n2 n3 h92;have HV1:=Qh (show V=textF s (endQ true (k+1) (s.drop (k+1)))by
       rw[hVk,HD.out,hc];rfl)
      have g92:((92:Int) == 92)=true:=rfl;rw[h92]at hnx;clear HD HLO HUN hVk he hlo hc h92;generalize wr.iterAt (w.heap.size+1) ⟨s.toArray⟩ (k+1)=wv at *;go_wp2_with fail;go_roundw;case rel=>exact⟨k+1,true,rfl,by omega,HIT.out,HBK.out,HBW.out,fun h=>by omega,fun _=>HV1.out⟩
      case measure=>rw[iterPos_of HIT.out,HM.out];omega
     ·have g92:(((decL (s.drop k)).1:Int) == 92)=false:=(by rw[beq_eq_false_iff_ne];omega);by_cases h34:(decL (s.drop k)).1=34
      · -- the closing quote
       obtain⟨he,hlo⟩:=HLO.out (by omega);have hc:s[k]=34:=UInt8.toNat.inj (by have e:UInt8.toNat 34=34:=rfl;rw[e,← h34,he]);rw[he]at hnx HIT HBW HBK;rw[he]at h34;simp only at hnx HIT HBW HBK h34;have HV1:=Qh (show V=textF s (some k)by rw[hVk,HD.out,hc];rfl);rw[h34]at hnx;have hx:=ext_to s (k+1);have cu:=fun w hT=>unquote_any (s.take (k+1)) (by rw[List.length_take];omega) w hT
       clear HD HLO HUN hVk he hlo hc h34 g92 n1 n2 n3;generalize wr.iterAt (w.heap.size+1) ⟨s.toArray⟩ (k+1)=wv at *;go_wp2_with fail;with_reducible refine(cu _ (HT.out.keep HBW.out)).mono ?_
       rintro e w2 ⟨rfl,hb2⟩;have HBK2:=Qh (HBK.out.keep hb2 lrf);have HBW2:=Qh (bstep HBW.out hb2 lrf);clear hb2 cu hx;obtain⟨⟨r0,r1,r2,r3⟩,f0,f1,f2,f3⟩:=HBK2.out.four;have hV2:=HV1.out;unfold textF at hV2;simp only at hV2;cases hu:unqL (s.take (k+1))with
       | bad n=>
        rw[hu]at hV2;simp only at hV2;have ci:=fun w=>is_errno (n:Int) 5 w
        unfold unqV errV;by_cases h5:n=5
        ·have HN:=Qh (show V=tokE 5 by rw[hV2,if_pos h5]);rw[show((n:Int) == 5)=true by rw[beq_iff_eq];omega]at ci;clear hu hV2 h5 HV1;go_wp2_with fail;with_reducible refine(ci _).mono ?_
         rintro e w3 ⟨rfl,rfl⟩;go_wp2_with fail;exact bodyPost_ret (v:=tokE 5) (by simp[results,results72,go_sem,r0,r1,r2,r3,tokE,tokV]) rfl ⟨by rw[HN.out],below_set4 HBW2.out lrf _ _ _ _⟩
        ·have HN:=Qh (show V=tokE 6 by rw[hV2,if_neg h5]);rw[show((n:Int) == 5)=false by rw[beq_eq_false_iff_ne];omega]at ci;clear hu hV2 h5 HV1;go_wp2_with fail;with_reducible refine(ci _).mono ?_
         rintro e w3 ⟨rfl,rfl⟩;go_wp2_with fail;exact bodyPost_ret (v:=tokE 6) (by simp[results,results72,go_sem,r0,r1,r2,r3,tokE,tokV]) rfl ⟨by rw[HN.out],below_set4 HBW2.out lrf _ _ _ _⟩
       | good l=>
        rw[hu]at hV2;simp only at hV2;have HN:=Qh (show V=tokG 3 l (k+1)from hV2);have ci:=fun w=>is_nilA 5 w
        unfold unqV;clear hu hV2 HV1;go_wp2_with fail;with_reducible refine(ci _).mono ?_
        rintro e w3 ⟨rfl,rfl⟩;go_wp2_with fail;exact bodyPost_ret (v:=tokG 3 l (k+1)) (by simp[results,results72,go_sem,r0,r1,r2,r3,tokG,tokV]) rfl ⟨by rw[HN.out],below_set4 HBW2.out lrf _ _ _ _⟩
      ·have g34:(((decL (s.drop k)).1:Int) == 34)=false:=(by rw[beq_eq_false_iff_ne];omega);have HV1:=Qh (show V=textF s (endQ false (k+(decL (s.drop k)).2) (s.drop (k+(decL (s.drop k)).2)))by
        rw[hVk];by_cases hlo:(decL (s.drop k)).1 < 128
        ·obtain⟨he,hl⟩:=HLO.out hlo;rw[he];rw[he]at h92 h34;show textF s (endQ false k (s.drop k))=textF s (endQ false (k+1) (s.drop (k+1)));rw[HD.out];show textF s (if s[k]=92 then _ else if s[k]=34 then _ else _)=_;rw[if_neg (by intro h;apply h92;rw[h];rfl),if_neg (by intro h;apply h34;rw[h];rfl)]
        ·rw[HUN.out false (by omega),List.drop_drop])
       clear HD HLO HUN hVk h92 h34;generalize (decL (s.drop k)).1=R at *;generalize (decL (s.drop k)).2=N at *;generalize wr.iterAt (w.heap.size+1) ⟨s.toArray⟩ (k+N)=wv at *;go_wp2_with fail;go_roundw;case rel=>exact⟨k+N,false,rfl,by omega,HIT.out,HBK.out,HBW.out,fun h=>by omega,fun _=>HV1.out⟩
       case measure=>rw[iterPos_of HIT.out,HM.out];omega
    ·have HV1:=Qh (show V=textF s (endQ false (k+(decL (s.drop k)).2) (s.drop (k+(decL (s.drop k)).2)))by
      rw[hVk];by_cases hlo:(decL (s.drop k)).1 < 128
      ·obtain⟨he,hl⟩:=HLO.out hlo;rw[he];show textF s (endQ true k (s.drop k))=textF s (endQ false (k+1) (s.drop (k+1)));rw[HD.out];rfl
      ·rw[HUN.out true (by omega),List.drop_drop])
     clear HD HLO HUN hVk;generalize (decL (s.drop k)).1=R at *;generalize (decL (s.drop k)).2=N at *;generalize wr.iterAt (w.heap.size+1) ⟨s.toArray⟩ (k+N)=wv at *;go_wp2_with fail;go_roundw;case rel=>exact⟨k+N,false,rfl,by omega,HIT.out,HBK.out,HBW.out,fun h=>by omega,fun _=>HV1.out⟩
     case measure=>rw[iterPos_of HIT.out,HM.out];omega
  ·have hks:k=s.length:=(by omega);have hne:0 < s.length:=by
    have:=HQ.out;rcases s with _|⟨a,t⟩
    ·cases this
    ·simp
   have HN:=Qh (show V=tokE 6 by
    rw[HR.out (by omega),hks,List.drop_length,endQ_nil];rfl)
   have hps:¬ k < (⟨s.toArray⟩:ByteArray).size:=hlt;have hnx:∀ ty,(Instr.next (.pointer (some ⟨w.heap.size+1,0,none⟩)) true ty).run prog wr=_:=fun ty=>Lib.run_next_end_at wr (w.heap.size+1) ⟨s.toArray⟩ k ty hit hps
   have HBW:=Qh hbw;obtain⟨⟨r0,r1,r2,r3⟩,f0,f1,f2,f3⟩:=hbk.four;clear hps hks hbw hne HR HZ HV;go_wp2_with fail;exact bodyPost_ret (v:=tokE 6) (by simp[results,results72,go_sem,r0,r1,r2,r3,tokE,tokV]) rfl ⟨by rw[HN.out],below_set4 HBW.out lrf _ _ _ _⟩
def signsL:List UInt8:=[58,124,40,41,91,93,44,59]
def sgU (r:Nat):Bool:=r == 58 || r == 124 || r == 40 || r == 41 || r == 91 || r == 93 || r == 44 || r == 59
theorem sg_low:(List.range 128).all (fun r=>decide (0≤Lib.indexByte signsL ((r:Int).toNat.toUInt8)) == sgU r)=true:=by decide +kernel
theorem sgU_low {r:Nat} (h:128≤r):sgU r=false:=by
 unfold sgU;simp only[Bool.or_eq_false_iff,beq_eq_false_iff_ne];omega
theorem enc_shape (r:Nat) (h1:128≤r) (h2:r < 55296∨57344≤r) (h3:r≤1114111) :
  (∃ x b:UInt8,Utf8.encode (r:Int)=⟨#[x,b]⟩∧128≤b.toNat)∨(∃ x y b:UInt8,Utf8.encode (r:Int)=⟨#[x,y,b]⟩∧128≤b.toNat)∨(∃ x y z b:UInt8,Utf8.encode (r:Int)=⟨#[x,y,z,b]⟩∧128≤b.toNat):=by
 have hv:Utf8.valid (r:Int)=true:=(by unfold Utf8.valid;simp;omega);have hb:∀ m:Nat,m < 128→128≤(UInt8.ofNat (128+m)).toNat:=fun m hm=>by rw[UInt8.toNat_ofNat_of_lt' (by show 128+m < 256;omega)];omega
 unfold Utf8.encode;simp only[hv,if_true,Int.toNat_natCast];rw[if_neg (by omega)];split
 ·exact .inl ⟨_,_,rfl,hb _ (by omega)⟩
 split
 ·exact .inr (.inl ⟨_,_,_,rfl,hb _ (by omega)⟩)
 ·exact .inr (.inr ⟨_,_,_,_,rfl,hb _ (by omega)⟩)
theorem idx_none:∀ (l:List UInt8) (b:UInt8),b ∉ l→Lib.indexByte l b = -1
 | [],b,_=>rfl
 | c::l,b,h=>by
  show(if (c == b)=true then _ else if (Lib.indexByte l b == -1)=true then _ else _)=_;rw[if_neg (by rw[beq_iff_eq];rintro rfl;exact h (List.mem_cons_self ..)),idx_none l b (fun h2=>h (List.mem_cons_of_mem _ h2)),if_pos (by decide)]
theorem signs_dec (k:Nat) (hk:k < 8):∃ c:Nat,c < 128∧decL (signsL.drop k)=(c,1):=by
 have hlt:k < signsL.length:=hk;rw[List.drop_eq_getElem_cons hlt];have:signsL[k].toNat < 128:=by
  have h:∀ c∈signsL,c.toNat < 128:=(by decide);exact h _ (List.getElem_mem hlt)
 exact⟨_,this,dec_ascii _ _ this⟩
set_option maxRecDepth 100000 in theorem indexRune_hi (r : Nat) (h1 : 128 ≤ r) (h2 : r < 55296 ∨ 57344 ≤ r) (h3 : r ≤ 1114111) (w : World) :
  Calls prog 101 #[.string ⟨#[58,124,40,41,91,93,44,59]⟩,.int .i32 (r:Nat)] w fun e w'=>e=.returned (.int .i64 (-1))∧Below w.heap.size w w':=by
 have i0:(0:Int)≤r:=(by omega);have i1:¬ (r:Int) < 128:=(by omega);by_cases hr:r=65533
 ·subst hr;have hi0:=World.iter_heap w ⟨#[58,124,40,41,91,93,44,59]⟩ 0;have hb0:Below w.heap.size w (w.iter ⟨#[58,124,40,41,91,93,44,59]⟩ 0):=(Below.refl _ _).alloc lrf _;go_enter func101,ntmps101
  go_wp2_with fail;generalize w.iter ⟨#[58,124,40,41,91,93,44,59]⟩ 0=V at *;go_loopw [] (fun wr=>∃ k:Nat,k≤8∧wr.heap[w.heap.size]? = some (.stringIter ⟨#[58,124,40,41,91,93,44,59]⟩ k)∧Below w.heap.size w wr) (fun wr=>8 - wr.iterPos w.heap.size)
  case atStart=>exact⟨0,by omega,hi0,hb0⟩
  case round=>
   clear hi0 hb0;obtain⟨k,hk,hit,hbw⟩:=hrel;have HM:=Qh (iterPos_of hit:wr.iterPos w.heap.size=k);by_cases hlt:k < 8
   ·have hnx:∀ ty,(Instr.next (.pointer (some ⟨w.heap.size,0,none⟩)) true ty).run prog wr=_:=fun ty=>Lib.run_next_any_at wr w.heap.size ⟨#[58,124,40,41,91,93,44,59]⟩ k ty hit hlt
    obtain⟨c,hc,hd⟩:=signs_dec k hlt;have hd2:Utf8.decode ⟨#[58,124,40,41,91,93,44,59]⟩ k=(c,1):=(dec_drop signsL k).trans hd;rw[hd2]at hnx;have HIT:=Qh (Lib.iterAt_heap wr w.heap.size ⟨#[58,124,40,41,91,93,44,59]⟩ k (k+1) hit);have HBW:=Qh (Lib.below_iterAt hbw (k:=w.heap.size) lrf ⟨#[58,124,40,41,91,93,44,59]⟩ (k+1));have g:((c:Int) == 65533)=false:=(by rw[beq_eq_false_iff_ne];omega);simp only at hnx;clear hd hd2 hit hbw hc;generalize wr.iterAt w.heap.size ⟨#[58,124,40,41,91,93,44,59]⟩ (k+1)=wv at *;go_wp2_with fail;go_roundw;case rel=>exact⟨k+1,by omega,HIT.out,HBW.out⟩
    case measure=>rw[iterPos_of HIT.out,HM.out];omega
   ·have hnx:∀ ty,(Instr.next (.pointer (some ⟨w.heap.size,0,none⟩)) true ty).run prog wr=_:=fun ty=>Lib.run_next_end_at wr w.heap.size ⟨#[58,124,40,41,91,93,44,59]⟩ k ty hit hlt
    go_wp2_with fail;go_ret;exact⟨rfl,hbw⟩
 ·have g1:((r:Int) == 65533)=false:=(by rw[beq_eq_false_iff_ne];omega);have cv:=fun w=>Tryz.utf8_ValidRune (r:Int) w
  rw[show Lib.validRune (r:Int)=true by unfold Lib.validRune;rw[decide_eq_true_eq];omega]at cv;have hnot:∀ b:UInt8,128≤b.toNat→b ∉ signsL:=fun b hb h=>by
   have h2:∀ c∈signsL,c.toNat < 128:=(by decide);have:=h2 b h;omega
  have hsub:∀ (b:UInt8) (j:Nat),128≤b.toNat→Lib.indexByte (signsL.drop j) b = -1:=fun b j hb=>idx_none _ _ (fun h=>hnot b hb (List.mem_of_mem_drop h))
  have HSUB:=Qh hsub;have cib:=fun (s:List UInt8) (b:UInt8) w=>Tryz.strings_IndexByte ⟨s.toArray⟩ (b.toNat:Int) w
  have CIB:=Qh cib;have henc:=enc_shape r h1 h2 h3;clear hsub hnot cib hr h1 h2 h3;rcases henc with ⟨x,b,he,hb⟩|⟨x,y,b,he,hb⟩|⟨x,y,z,b,he,hb⟩
  ·have ci:∀ w,Calls prog 123 #[.string ⟨#[40,41,91,93,44,59]⟩,.int .u8 (b.toNat:Nat)] w fun e w'=>e=.returned (.int .i64 (-1))∧w' = w:=fun w=>by
    have h:=CIB.out (signsL.drop 2) b w;rw[show(Int.toNat (b.toNat:Int)).toUInt8=b by rw[Int.toNat_natCast];exact UInt8.ofNat_toNat,show(⟨(signsL.drop 2).toArray⟩:ByteArray).data.toList=signsL.drop 2 from rfl,HSUB.out b 2 hb]at h;exact h
   have hx:(⟨#[58,124,40,41,91,93,44,59]⟩:ByteArray).extract 2 8=⟨#[40,41,91,93,44,59]⟩:=by
    have:=ext_from signsL 2 (by decide);exact this
   have q1:((⟨#[58,124,40,41,91,93,44,59]⟩:ByteArray)[1]'(by decide)).toNat=124:=rfl;have q2:(⟨#[x,b]⟩:ByteArray)[1]'(Nat.lt_succ_self _)=b:=rfl;have g2:((124:Int) != (b.toNat:Int))=true:=(by rw[bne_iff_ne];omega);clear CIB HSUB;go_enter func101,ntmps101
   go_wp2_with fail;with_reducible refine(cv _).mono ?_
   rintro e w1 ⟨rfl,rfl⟩;go_wp2_with fail;go_step3
   go_wp2_with fail;refine wp_loop_rounds 1 ?_;rw[rounds_succ];go_wp2_with fail;try (go_step3;go_wp2_with fail)
   refine wp_region_later0 (by kernel_rfl) (by kernel_rfl) ?_
   repeat (go_big_quiet_step (fail))
   refine wpQuiet_nil ?_;rintro _ ⟨xx,rfl⟩;have HB1:=Qh xx.below;generalize xx.w=w2 at *;go_wp2_with fail;refine wp_region_later0 (by kernel_rfl) (by kernel_rfl) ?_
   repeat (go_big_quiet_step ((go_at_call 123;with_reducible exact Later.same (ci _))))
   refine wpQuiet_nil ?_;rintro _ ⟨xy,rfl⟩;have HB2:=Qh (bstep HB1.out xy.below lrf);generalize xy.w=w3 at *;go_wp2_with fail;rw[Exit.noGoto_ret];go_wp2_with fail;rw[Exit.noGoto_ret];go_wp2_with fail;go_ret;exact⟨rfl,HB2.out⟩
  ·have ci:∀ w,Calls prog 123 #[.string ⟨#[41,91,93,44,59]⟩,.int .u8 (b.toNat:Nat)] w fun e w'=>e=.returned (.int .i64 (-1))∧w' = w:=fun w=>by
    have h:=CIB.out (signsL.drop 3) b w;rw[show(Int.toNat (b.toNat:Int)).toUInt8=b by rw[Int.toNat_natCast];exact UInt8.ofNat_toNat,show(⟨(signsL.drop 3).toArray⟩:ByteArray).data.toList=signsL.drop 3 from rfl,HSUB.out b 3 hb]at h;exact h
   have hx:(⟨#[58,124,40,41,91,93,44,59]⟩:ByteArray).extract 3 8=⟨#[41,91,93,44,59]⟩:=by
    have:=ext_from signsL 3 (by decide);exact this
   have q1:((⟨#[58,124,40,41,91,93,44,59]⟩:ByteArray)[2]'(by decide)).toNat=40:=rfl;have q2:(⟨#[x,y,b]⟩:ByteArray)[2]'(Nat.lt_succ_self _)=b:=rfl;have g2:((40:Int) != (b.toNat:Int))=true:=(by rw[bne_iff_ne];omega);clear CIB HSUB;go_enter func101,ntmps101
   go_wp2_with fail;with_reducible refine(cv _).mono ?_
   rintro e w1 ⟨rfl,rfl⟩;go_wp2_with fail;go_step3
   go_wp2_with fail;refine wp_loop_rounds 1 ?_;rw[rounds_succ];go_wp2_with fail;try (go_step3;go_wp2_with fail)
   refine wp_region_later0 (by kernel_rfl) (by kernel_rfl) ?_
   repeat (go_big_quiet_step (fail))
   refine wpQuiet_nil ?_;rintro _ ⟨xx,rfl⟩;have HB1:=Qh xx.below;generalize xx.w=w2 at *;go_wp2_with fail;refine wp_region_later0 (by kernel_rfl) (by kernel_rfl) ?_
   repeat (go_big_quiet_step ((go_at_call 123;with_reducible exact Later.same (ci _))))
   refine wpQuiet_nil ?_;rintro _ ⟨xy,rfl⟩;have HB2:=Qh (bstep HB1.out xy.below lrf);generalize xy.w=w3 at *;go_wp2_with fail;rw[Exit.noGoto_ret];go_wp2_with fail;rw[Exit.noGoto_ret];go_wp2_with fail;go_ret;exact⟨rfl,HB2.out⟩
  ·have ci:∀ w,Calls prog 123 #[.string ⟨#[91,93,44,59]⟩,.int .u8 (b.toNat:Nat)] w fun e w'=>e=.returned (.int .i64 (-1))∧w' = w:=fun w=>by
    have h:=CIB.out (signsL.drop 4) b w;rw[show(Int.toNat (b.toNat:Int)).toUInt8=b by rw[Int.toNat_natCast];exact UInt8.ofNat_toNat,show(⟨(signsL.drop 4).toArray⟩:ByteArray).data.toList=signsL.drop 4 from rfl,HSUB.out b 4 hb]at h;exact h
   have hx:(⟨#[58,124,40,41,91,93,44,59]⟩:ByteArray).extract 4 8=⟨#[91,93,44,59]⟩:=by
    have:=ext_from signsL 4 (by decide);exact this
   have q1:((⟨#[58,124,40,41,91,93,44,59]⟩:ByteArray)[3]'(by decide)).toNat=41:=rfl;have q2:(⟨#[x,y,z,b]⟩:ByteArray)[3]'(Nat.lt_succ_self _)=b:=rfl;have g2:((41:Int) != (b.toNat:Int))=true:=(by rw[bne_iff_ne];omega);clear CIB HSUB;go_enter func101,ntmps101
   go_wp2_with fail;with_reducible refine(cv _).mono ?_
   rintro e w1 ⟨rfl,rfl⟩;go_wp2_with fail;go_step3
   go_wp2_with fail;refine wp_loop_rounds 1 ?_;rw[rounds_succ];go_wp2_with fail;try (go_step3;go_wp2_with fail)
   refine wp_region_later0 (by kernel_rfl) (by kernel_rfl) ?_
   repeat (go_big_quiet_step (fail))
   refine wpQuiet_nil ?_;rintro _ ⟨xx,rfl⟩;have HB1:=Qh xx.below;generalize xx.w=w2 at *;go_wp2_with fail;refine wp_region_later0 (by kernel_rfl) (by kernel_rfl) ?_
   repeat (go_big_quiet_step ((go_at_call 123;with_reducible exact Later.same (ci _))))
   refine wpQuiet_nil ?_;rintro _ ⟨xy,rfl⟩;have HB2:=Qh (bstep HB1.out xy.below lrf);generalize xy.w=w3 at *;go_wp2_with fail;rw[Exit.noGoto_ret];go_wp2_with fail;rw[Exit.noGoto_ret];go_wp2_with fail;go_ret;exact⟨rfl,HB2.out⟩
theorem signs_any (r:Nat) (h2:r < 55296∨57344≤r) (h3:r≤1114111) (w:World) :
  Calls prog 73 #[.string ⟨#[58,124,40,41,91,93,44,59]⟩,.int .i32 (r:Nat)] w fun e w'=>e=.returned (.bool (sgU r))∧Below w.heap.size w w':=by
 by_cases h:r < 128
 ·have hc:=Tryz.strings_ContainsRune_ascii ⟨#[58,124,40,41,91,93,44,59]⟩ (r:Int) w (by omega) (by omega);have hs:=List.all_eq_true.1 sg_low r (List.mem_range.2 h);rw[beq_iff_eq]at hs;refine hc.mono fun e w' ⟨h1,h2⟩=>⟨?_,by rw[h2];exact Below.refl _ _⟩
  rw[h1,← hs];rfl
 ·have ci:=indexRune_hi r (by omega) h2 h3;rw[sgU_low (by omega)];clear h h2 h3;go_enter func73,ntmps73
  go_wp2_with fail;with_reducible refine(ci _).mono ?_
  rintro e w1 ⟨rfl,hb⟩;have HB:=Qh hb;clear hb;go_wp2_with fail;go_ret;exact⟨rfl,HB.out⟩
end Go.Proofs.YtkblpaabknjckaaGreatDoor
