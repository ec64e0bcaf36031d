/-
  lex.token: contract.
-/
import Derived.Test.YtkblpaabknjckaaGreatDoorBaseD
import Derived.Test.YtkblpaabknjckaaGreatDoorLexD
set_option maxHeartbeats 128000000
set_option linter.unusedVariables false
namespace Go.Proofs.YtkblpaabknjckaaGreatDoor
open Go.Proofs.Tryz
open Go.RowKit Go.Shelf
def ldC (c:UInt8):Bool:=ltU c.toNat || dgU c.toNat
def nameN (s:List UInt8):Nat:=(s.takeWhile ldC).length
def ordB (s:List UInt8):Bool:=s.take 3 == [64,48,43] || s.take 3 == [64,48,45] || s.take 3 == [64,49,43] || s.take 3 == [64,49,45]
def sgC (R:Nat) (s:List UInt8):Bool:=(R == 43 || R == 45) && (match s[1]? with|some c=>dgU c.toNat|none=>false)
def tokT (s:List UInt8):Value:=
 if ltU (decL s).1=true then tokG 1 (s.take (nameN s)) (nameN s)
 else if (dgU (decL s).1 || sgC (decL s).1 s)=true then (if numN s=0 then tokE 8 else tokG 2 (s.take (numN s)) (numN s))
 else if (decL s).1=34 then textT s
 else if sgU (decL s).1=true then tokG 4 (s.take 1) 1
 else if ordB s=true then tokG 4 (s.take 3) 3 else tokE 7
theorem nameN_le (s:List UInt8):nameN s≤s.length:=(List.takeWhile_sublist _).length_le
theorem numN_le (s:List UInt8):numN s≤s.length:=by
 have h3:∀ n,n≤s.length→num3T s n≤s.length:=by
  intro n hn;unfold num3T;split
  ·split<;>omega
  ·omega
 have h2:∀ n,n≤s.length→num2T s n≤s.length:=by
  intro n hn;unfold num2T;split
  ·split
   ·split
    ·omega
    ·apply h3;have:=tw_lenA (s.drop (n+1+sgnN (s.drop (n+1))));obtain⟨a,b⟩:=sgnN_le (s.drop (n+1));rw[List.length_drop]at this b
     rename_i c hc _ _
     have:n < s.length:=by
      rcases Nat.lt_or_ge n s.length with h|h
      ·exact h
      ·rw[at_none (by omega)]at hc;cases hc
     omega
   ·exact h3 n hn
  ·exact h3 n hn
 unfold numN num1T;have a:=sgnN_le s;have b:=tw_lenA (s.drop (sgnN s));rw[List.length_drop]at b;split
 ·split
  ·split
   ·omega
   ·apply h2;have:=tw_lenA (s.drop (sgnN s+(tw (s.drop (sgnN s))).length+1));rw[List.length_drop]at this
    rename_i c hc _ _
    have:sgnN s+(tw (s.drop (sgnN s))).length < s.length:=by
     rcases Nat.lt_or_ge (sgnN s+(tw (s.drop (sgnN s))).length) s.length with h|h
     ·exact h
     ·rw[at_none (by omega)]at hc;cases hc
    omega
  ·apply h2;omega
 ·apply h2;omega
theorem dec_valid (l:List UInt8):(decL l).1 < 55296∨57344≤(decL l).1:=by
 obtain⟨c,k,e,h⟩:=decN_cases l.length (l.getD 0 0).toNat (l.getD 1 0).toNat (l.getD 2 0).toNat (l.getD 3 0).toNat;have e2:decL l=(c,k):=e;rw[e2];rcases h with h|h|h|h|h<;>simp only<;>omega
set_option maxRecDepth 100000 in theorem token_any (s : List UInt8) (hs : s.length ≤ 1000000000) (hne : s ≠ []) (w : World) (hT : TabsU w) :
  Calls prog 32 #[.string ⟨s.toArray⟩,.int .i32 ((decL s).1:Nat)] w fun e w'=>e=.returned (tokT s)∧Below w.heap.size w w':=by
 obtain⟨V,hV⟩:∃ V,V=tokT s:=⟨_,rfl⟩
 rw[← hV];have hpos:0 < s.length:=List.length_pos_iff.2 hne;have cl:=letter_any (decL s).1;have cdg:=ldigit_any (decL s).1;have csg:=signs_any (decL s).1 (dec_valid s) (dec_max s);have cnum:=number_any s hs;have hhead:(decL s).1 < 128→decL s=(s[0].toNat,1)∧s[0].toNat < 128:=by
  intro h;rcases s with _|⟨c,t⟩
  ·exact absurd rfl hne
  ·exact dec_low c t h
 have hbb:Below w.heap.size w (w.alloc (.cells #[.int .i64 0,.string ⟨#[]⟩,.int .i64 0,.int .i64 0] 97)):=(Below.refl _ _).alloc lrf _;have htb:=Blk.new w #[.int .i64 0,.string ⟨#[]⟩,.int .i64 0,.int .i64 0] 97;have HBW:=Qh hbb;have HBK:=Qh htb;have HT:=Qh hT;have HV:=Qh hV;have HH:=Qh hhead;have hx:=fun j=>ext_to s j
 have HX:=Qh hx;clear hbb htb hT hV hhead hx;cases hl:ltU (decL s).1
 case true=>
  rw[hl]at cl;obtain⟨N,hN⟩:∃ N,N=nameN s:=⟨_,rfl⟩
  have HN:=Qh (show V=tokG 1 (s.take N) N by rw[HV.out];unfold tokT;rw[if_pos hl,hN]);have HNN:=Qh hN;have hNl:N≤s.length:=(by rw[hN];exact nameN_le s);have hxN:=HX.out N;clear HV HX HH hl hN cdg csg cnum hne;go_enter func32,ntmps32
  go_wp2_with fail;with_reducible refine(cl _).mono ?_
  rintro e w1 ⟨rfl,rfl⟩;generalize w.alloc (.cells #[.int .i64 0,.string ⟨#[]⟩,.int .i64 0,.int .i64 0] 97)=W at *;obtain⟨⟨r0,r1,r2,r3⟩,f0,f1,f2,f3⟩:=HBK.out.four;clear cl;have hb0:Below W.heap.size W (W.iter ⟨s.toArray⟩ 0):=(Below.refl _ _).alloc lrf _;have hi0:=World.iter_heap W ⟨s.toArray⟩ 0;have ht0:Blk (W.iter ⟨s.toArray⟩ 0) w.heap.size _:=HBK.out.keep hb0 lrf;have HB0:=Qh (bstep HBW.out hb0 lrf);have hWs:=HBW.out.size;clear hb0 r0 r1 r2 r3 f0 f1 f2 f3 HBK;have hHW:w.heap.size < W.heap.size:=by
   have:=ht0.lt;have h2:(W.iter ⟨s.toArray⟩ 0).heap.size=W.heap.size+1:=World.size_alloc _ _;rcases Nat.lt_or_ge w.heap.size W.heap.size with h|h
   ·exact h
   ·exfalso;have e:w.heap.size=W.heap.size:=(by omega);obtain⟨T,hT⟩:=ht0;rw[e,hi0]at hT;cases hT
  go_wp2_with fail;generalize W.iter ⟨s.toArray⟩ 0=V0 at *;go_loopw [7] (fun v wr=>∃ k:Nat,k≤s.length∧v=.int .i64 (s.length:Nat)∧N=k+((s.drop k).takeWhile ldC).length∧wr.heap[W.heap.size]? = some (.stringIter ⟨s.toArray⟩ k)∧Blk wr w.heap.size #[.int .i64 0,.string ⟨#[]⟩,.int .i64 0,.int .i64 0]∧Below w.heap.size w wr) (fun v wr=>s.length - wr.iterPos W.heap.size)
  case atStart=>exact⟨0,Nat.zero_le _,rfl,by rw[HNN.out];simp[nameN],hi0,ht0,HB0.out⟩
  case round=>
   clear hi0 ht0 HB0 HNN;obtain⟨k,hk,rfl,hNk,hit,hbk,hbw⟩:=hrel;have HM:=Qh (iterPos_of hit:wr.iterPos W.heap.size=k);by_cases hlt:k < s.length
   ·have hd:=List.drop_eq_getElem_cons hlt;rw[hd]at hNk;have cl2:=letter_any (decL (s[k]::s.drop (k+1))).1;have cd2:=ldigit_any (decL (s[k]::s.drop (k+1))).1;have hit2:=Lib.iterAt_heap wr W.heap.size ⟨s.toArray⟩ k (k+(decL (s[k]::s.drop (k+1))).2) hit;have hbw2:=Lib.below_iterAt hbw (k:=W.heap.size) hWs ⟨s.toArray⟩ (k+(decL (s[k]::s.drop (k+1))).2);have hbk2:Blk (wr.iterAt W.heap.size ⟨s.toArray⟩ (k+(decL (s[k]::s.drop (k+1))).2)) w.heap.size _:=hbk.same (Lib.iterAt_other _ _ _ _ _ (by omega));have hlow:(ltU (decL (s[k]::s.drop (k+1))).1 || dgU (decL (s[k]::s.drop (k+1))).1)=true→ldC s[k]=true∧(decL (s[k]::s.drop (k+1))).2=1:=by
     intro h;have h2:(decL (s[k]::s.drop (k+1))).1 < 128:=by
      rw[Bool.or_eq_true]at h;rcases h with h|h
      ·exact ltU_low h
      ·exact dgU_low h
     obtain⟨e,_⟩:=dec_low _ _ h2;rw[e]at h ⊢;exact⟨h,rfl⟩
    have hhigh:(ltU (decL (s[k]::s.drop (k+1))).1 || dgU (decL (s[k]::s.drop (k+1))).1)=false→ldC s[k]=false:=by
     intro h;rw[Bool.eq_false_iff];intro h2;have h3:s[k].toNat < 128:=by
      unfold ldC at h2;rw[Bool.or_eq_true]at h2;rcases h2 with h2|h2
      ·exact ltU_low h2
      ·exact dgU_low h2
     rw[dec_ascii _ _ h3]at h;unfold ldC at h2;rw[h2]at h;cases h
    have hps:k < (⟨s.toArray⟩:ByteArray).size:=hlt;have hnx:∀ ty,(Instr.next (.pointer (some ⟨W.heap.size,0,none⟩)) true ty).run prog wr=_:=fun ty=>Lib.run_next_any_at wr W.heap.size ⟨s.toArray⟩ k ty hit hps
    rw[dec_drop,hd]at hnx;generalize decL (s[k]::s.drop (k+1))=dd at *;obtain⟨R2,N2⟩:=dd;simp only at hnx cl2 cd2 hit2 hbw2 hbk2 hlow hhigh;clear hps hit hbk hbw hd;cases hl2:ltU R2
    ·rw[hl2]at cl2;cases hd2:dgU R2
     ·have hld:=hhigh (by rw[hl2,hd2];rfl);rw[hd2]at cd2;have HNK:=Qh (show N=k by rw[hNk,List.takeWhile_cons,hld];rfl);obtain⟨⟨r0,r1,r2,r3⟩,f0,f1,f2,f3⟩:=hbk2.four;have HB2:=Qh hbw2;clear hNk hlow hhigh hld hl2 hd2 hbk2 hbw2 hit2 HM;generalize wr.iterAt W.heap.size ⟨s.toArray⟩ (k+N2)=wv at *;have hkN:=HNK.out;subst hkN;go_wp2_with fail;with_reducible refine(cl2 _).mono ?_
      rintro e w3 ⟨rfl,rfl⟩;go_wp2_with fail;with_reducible refine(cd2 _).mono ?_
      rintro e w4 ⟨rfl,rfl⟩;go_wp2_with fail;exact bodyPost_ret (v:=tokG 1 (s.take N) N) (by simp[results,results32,go_sem,r0,r1,r2,r3,tokG,tokV]) rfl ⟨by rw[HN.out],below_set4 HB2.out lrf _ _ _ _⟩
     ·have hld:=hlow (by rw[hl2,hd2];rfl);rw[hd2]at cd2;obtain⟨hld1,rfl⟩:=hld;have HNK:=Qh (show N=k+1+((s.drop (k+1)).takeWhile ldC).length by rw[hNk,List.takeWhile_cons,hld1];simp only[if_true,List.length_cons];omega);have HIT:=Qh hit2;have HBK2:=Qh hbk2;have HB2:=Qh hbw2;clear hNk hlow hhigh hld1 hl2 hd2 hbk2 hbw2 hit2;generalize wr.iterAt W.heap.size ⟨s.toArray⟩ (k+1)=wv at *;go_wp2_with fail;with_reducible refine(cl2 _).mono ?_
      rintro e w3 ⟨rfl,rfl⟩;go_wp2_with fail;with_reducible refine(cd2 _).mono ?_
      rintro e w4 ⟨rfl,rfl⟩;go_wp2_with fail;go_roundw;case rel=>exact⟨k+1,by omega,rfl,HNK.out,HIT.out,HBK2.out,HB2.out⟩
      case measure=>rw[iterPos_of HIT.out,HM.out];omega
    ·have hld:=hlow (by rw[hl2];rfl);rw[hl2]at cl2;obtain⟨hld1,rfl⟩:=hld;have HNK:=Qh (show N=k+1+((s.drop (k+1)).takeWhile ldC).length by rw[hNk,List.takeWhile_cons,hld1];simp only[if_true,List.length_cons];omega);have HIT:=Qh hit2;have HBK2:=Qh hbk2;have HB2:=Qh hbw2;clear hNk hlow hhigh hld1 hl2 hbk2 hbw2 hit2;generalize wr.iterAt W.heap.size ⟨s.toArray⟩ (k+1)=wv at *;go_wp2_with fail;with_reducible refine(cl2 _).mono ?_
     rintro e w3 ⟨rfl,rfl⟩;go_wp2_with fail;go_roundw;case rel=>exact⟨k+1,by omega,rfl,HNK.out,HIT.out,HBK2.out,HB2.out⟩
     case measure=>rw[iterPos_of HIT.out,HM.out];omega
   ·have hks:k=s.length:=(by omega);have hNk2:N=s.length:=(by rw[hNk,hks,List.drop_length];simp);have hps:¬ k < (⟨s.toArray⟩:ByteArray).size:=hlt;have hnx:∀ ty,(Instr.next (.pointer (some ⟨W.heap.size,0,none⟩)) true ty).run prog wr=_:=fun ty=>Lib.run_next_end_at wr W.heap.size ⟨s.toArray⟩ k ty hit hps
    obtain⟨⟨r0,r1,r2,r3⟩,f0,f1,f2,f3⟩:=hbk.four;have HB2:=Qh hbw;rw[hNk2]at hxN HN;clear hps hit hbk hbw hNk hNk2 hks HM hNl;go_wp2_with fail;exact bodyPost_ret (v:=tokG 1 (s.take s.length) s.length) (by simp[results,results32,go_sem,r0,r1,r2,r3,tokG,tokV]) rfl ⟨by rw[HN.out],below_set4 HB2.out lrf _ _ _ _⟩
 case false=>
  rw[hl]at cl;have hV0:V=if (dgU (decL s).1 || sgC (decL s).1 s)=true then (if numN s=0 then tokE 8 else tokG 2 (s.take (numN s)) (numN s))
    else if (decL s).1=34 then textT s else if sgU (decL s).1=true then tokG 4 (s.take 1) 1 else if ordB s=true then tokG 4 (s.take 3) 3 else tokE 7:=by
   rw[HV.out];unfold tokT;rw[if_neg (by rw[hl];decide)]
  have hnl:=numN_le s;cases hdg:dgU (decL s).1
  case true=>
   rw[hdg]at cdg;rw[hdg,Bool.true_or,if_pos rfl]at hV0;clear HV HH hl csg hne hdg;by_cases h0:numN s=0
   ·have HN:=Qh (show V=tokE 8 by rw[hV0,if_pos h0]);rw[h0]at cnum;clear HX h0 hV0;go_enter func32,ntmps32
    go_wp2_with fail;with_reducible refine(cl _).mono ?_
    rintro e w1 ⟨rfl,rfl⟩;generalize w.alloc (.cells #[.int .i64 0,.string ⟨#[]⟩,.int .i64 0,.int .i64 0] 97)=W at *;obtain⟨⟨r0,r1,r2,r3⟩,f0,f1,f2,f3⟩:=HBK.out.four;clear cl;go_wp2_with fail;with_reducible refine(cdg _).mono ?_
    rintro e w2 ⟨rfl,rfl⟩;go_wp2_with fail;with_reducible refine(cnum _).mono ?_
    rintro e w3 ⟨rfl,hb⟩;have HB2:=Qh (bstep HBW.out hb lrf);clear r0 r1 r2 r3 f0 f1 f2 f3;obtain⟨⟨r0,r1,r2,r3⟩,f0,f1,f2,f3⟩:=(HBK.out.keep hb lrf).four;clear hb cnum;go_wp2_with fail;exact bodyPost_ret (v:=tokE 8) (by simp[results,results32,go_sem,r0,r1,r2,r3,tokE,tokV]) rfl ⟨by rw[HN.out],below_set4 HB2.out lrf _ _ _ _⟩
   ·have HN0:=Qh (show V=tokG 2 (s.take (numN s)) (numN s)by rw[hV0,if_neg h0]);have hxN:=HX.out (numN s);have hn0:((numN s:Int) == 0)=false:=(by rw[beq_eq_false_iff_ne];omega);clear HX h0 hV0;generalize numN s=n at *;have HN:=Qh HN0.out;clear HN0;go_enter func32,ntmps32
    go_wp2_with fail;with_reducible refine(cl _).mono ?_
    rintro e w1 ⟨rfl,rfl⟩;generalize w.alloc (.cells #[.int .i64 0,.string ⟨#[]⟩,.int .i64 0,.int .i64 0] 97)=W at *;obtain⟨⟨r0,r1,r2,r3⟩,f0,f1,f2,f3⟩:=HBK.out.four;clear cl;go_wp2_with fail;with_reducible refine(cdg _).mono ?_
    rintro e w2 ⟨rfl,rfl⟩;go_wp2_with fail;with_reducible refine(cnum _).mono ?_
    rintro e w3 ⟨rfl,hb⟩;have HB2:=Qh (bstep HBW.out hb lrf);clear r0 r1 r2 r3 f0 f1 f2 f3;obtain⟨⟨r0,r1,r2,r3⟩,f0,f1,f2,f3⟩:=(HBK.out.keep hb lrf).four;clear hb cnum;go_wp2_with fail;exact bodyPost_ret (v:=tokG 2 (s.take n) n) (by simp[results,results32,go_sem,r0,r1,r2,r3,tokG,tokV]) rfl ⟨by rw[HN.out],below_set4 HB2.out lrf _ _ _ _⟩
  case false=>
   rw[hdg]at cdg;rw[hdg,Bool.false_or]at hV0;have hsg0:(decL s).1=43∨(decL s).1=45→sgU (decL s).1=false∧ordB s=false:=by
    intro h;refine⟨by rcases h with h|h<;>rw[h]<;>rfl,?_⟩;have h9:=HH.out (by omega);have h0:s[0]≠64:=by
     intro e;rw[h9.1]at h;simp only[e]at h;rcases h with h|h<;>exact absurd h (by decide)
    clear h9 h;rcases s with _|⟨c,t⟩
    ·exact absurd rfl hne
    ·simp only[List.getElem_cons_zero]at h0;unfold ordB;have hb:∀ l,((c::t).take 3 == (64::l))=false:=fun l=>by
      rw[beq_eq_false_iff_ne];intro e;rw[List.take_succ_cons]at e;exact h0 (List.cons.inj e).1
     rw[hb,hb,hb,hb];rfl
   by_cases h43:(decL s).1=43
   ·have hR:=h43;clear h43;have g34:(((decL s).1:Int) == 34)=false:=(by rw[hR];rfl);have gR:(((decL s).1:Int) == 43)=true:=(by rw[hR];rfl);have gR2:(((decL s).1:Int) == 45)=false:=(by rw[hR];rfl);obtain⟨hsg,hor⟩:=hsg0 (by omega);have h34n:¬ (decL s).1=34:=(by rw[hR];decide);rw[hsg]at csg;have HR:=Qh hR;clear hR hsg0;by_cases h1:1 < s.length
    ·have hsc:sgC (decL s).1 s=dgU s[1].toNat:=(by unfold sgC;rw[HR.out,List.getElem?_eq_getElem h1];rfl);rw[hsc]at hV0;have cd1:=ldigit_any s[1].toNat;have hget:(⟨s.toArray⟩:ByteArray)[1]'h1=s[1]:=rfl;have hw:IntKind.i32.wrap (s[1].toNat:Int)=(s[1].toNat:Int):=by
      have:=UInt8.toNat_lt s[1];unfold IntKind.wrap;simp[IntKind.bits,IntKind.signed];omega
     have g1:(1:Int) < s.length:=(by omega);cases hd1:dgU s[1].toNat
     case true=>
      rw[hd1]at cd1;rw[hd1,if_pos rfl]at hV0;generalize s[1]=c1 at *;clear hd1 hsc hsg hor h34n;clear HV HH hl csg hne hdg;by_cases h0:numN s=0
      ·have HN:=Qh (show V=tokE 8 by rw[hV0,if_pos h0]);rw[h0]at cnum;clear HX h0 hV0;go_enter func32,ntmps32
       go_wp2_with fail;with_reducible refine(cl _).mono ?_
       rintro e w1 ⟨rfl,rfl⟩;generalize w.alloc (.cells #[.int .i64 0,.string ⟨#[]⟩,.int .i64 0,.int .i64 0] 97)=W at *;obtain⟨⟨r0,r1,r2,r3⟩,f0,f1,f2,f3⟩:=HBK.out.four;clear cl;go_wp2_with fail;with_reducible refine(cdg _).mono ?_
       rintro e w2 ⟨rfl,rfl⟩;go_wp2_with fail;with_reducible refine(cd1 _).mono ?_
       rintro e w4 ⟨rfl,rfl⟩;clear cd1;go_wp2_with fail;with_reducible refine(cnum _).mono ?_
       rintro e w3 ⟨rfl,hb⟩;have HB2:=Qh (bstep HBW.out hb lrf);clear r0 r1 r2 r3 f0 f1 f2 f3;obtain⟨⟨r0,r1,r2,r3⟩,f0,f1,f2,f3⟩:=(HBK.out.keep hb lrf).four;clear hb cnum;go_wp2_with fail;exact bodyPost_ret (v:=tokE 8) (by simp[results,results32,go_sem,r0,r1,r2,r3,tokE,tokV]) rfl ⟨by rw[HN.out],below_set4 HB2.out lrf _ _ _ _⟩
      ·have HN0:=Qh (show V=tokG 2 (s.take (numN s)) (numN s)by rw[hV0,if_neg h0]);have hxN:=HX.out (numN s);have hn0:((numN s:Int) == 0)=false:=(by rw[beq_eq_false_iff_ne];omega);clear HX h0 hV0;generalize numN s=n at *;have HN:=Qh HN0.out;clear HN0;go_enter func32,ntmps32
       go_wp2_with fail;with_reducible refine(cl _).mono ?_
       rintro e w1 ⟨rfl,rfl⟩;generalize w.alloc (.cells #[.int .i64 0,.string ⟨#[]⟩,.int .i64 0,.int .i64 0] 97)=W at *;obtain⟨⟨r0,r1,r2,r3⟩,f0,f1,f2,f3⟩:=HBK.out.four;clear cl;go_wp2_with fail;with_reducible refine(cdg _).mono ?_
       rintro e w2 ⟨rfl,rfl⟩;go_wp2_with fail;with_reducible refine(cd1 _).mono ?_
       rintro e w4 ⟨rfl,rfl⟩;clear cd1;go_wp2_with fail;with_reducible refine(cnum _).mono ?_
       rintro e w3 ⟨rfl,hb⟩;have HB2:=Qh (bstep HBW.out hb lrf);clear r0 r1 r2 r3 f0 f1 f2 f3;obtain⟨⟨r0,r1,r2,r3⟩,f0,f1,f2,f3⟩:=(HBK.out.keep hb lrf).four;clear hb cnum;go_wp2_with fail;exact bodyPost_ret (v:=tokG 2 (s.take n) n) (by simp[results,results32,go_sem,r0,r1,r2,r3,tokG,tokV]) rfl ⟨by rw[HN.out],below_set4 HB2.out lrf _ _ _ _⟩
     case false=>
      rw[hd1]at cd1;rw[hd1,if_neg (by decide),if_neg h34n,if_neg (by rw[hsg];decide),if_neg (by rw[hor];decide)]at hV0;generalize s[1]=c1 at *;have HN:=Qh hV0;clear hd1 hsc hsg hV0 HV HH hl hdg hne cnum h34n;unfold ordB at hor;simp only[Bool.or_eq_false_iff]at hor;by_cases g3:(3:Int)≤s.length
      ·have hx3:=HX.out 3;obtain⟨⟨⟨e1,e2⟩,e3⟩,e4⟩:=hor;generalize s.take 3=T3 at *;clear HX;go_enter func32,ntmps32
       go_wp2_with fail;with_reducible refine(cl _).mono ?_
       rintro e w1 ⟨rfl,rfl⟩;generalize w.alloc (.cells #[.int .i64 0,.string ⟨#[]⟩,.int .i64 0,.int .i64 0] 97)=W at *;obtain⟨⟨r0,r1,r2,r3⟩,f0,f1,f2,f3⟩:=HBK.out.four;clear cl;go_wp2_with fail;with_reducible refine(cdg _).mono ?_
       rintro e w2 ⟨rfl,rfl⟩;go_wp2_with fail;with_reducible refine(cd1 _).mono ?_
       rintro e w4 ⟨rfl,rfl⟩;clear cd1;go_wp2_with fail;with_reducible refine(csg _).mono ?_
       rintro e w5 ⟨rfl,hb⟩;have HB2:=Qh (bstep HBW.out hb lrf);clear r0 r1 r2 r3 f0 f1 f2 f3;obtain⟨⟨r0,r1,r2,r3⟩,f0,f1,f2,f3⟩:=(HBK.out.keep hb lrf).four;clear hb csg;go_wp2_with fail;exact bodyPost_ret (v:=tokE 7) (by simp[results,results32,go_sem,r0,r1,r2,r3,tokE,tokV]) rfl ⟨by rw[HN.out],below_set4 HB2.out lrf _ _ _ _⟩
      ·clear HX hor;go_enter func32,ntmps32
       go_wp2_with fail;with_reducible refine(cl _).mono ?_
       rintro e w1 ⟨rfl,rfl⟩;generalize w.alloc (.cells #[.int .i64 0,.string ⟨#[]⟩,.int .i64 0,.int .i64 0] 97)=W at *;obtain⟨⟨r0,r1,r2,r3⟩,f0,f1,f2,f3⟩:=HBK.out.four;clear cl;go_wp2_with fail;with_reducible refine(cdg _).mono ?_
       rintro e w2 ⟨rfl,rfl⟩;go_wp2_with fail;with_reducible refine(cd1 _).mono ?_
       rintro e w4 ⟨rfl,rfl⟩;clear cd1;go_wp2_with fail;with_reducible refine(csg _).mono ?_
       rintro e w5 ⟨rfl,hb⟩;have HB2:=Qh (bstep HBW.out hb lrf);clear r0 r1 r2 r3 f0 f1 f2 f3;obtain⟨⟨r0,r1,r2,r3⟩,f0,f1,f2,f3⟩:=(HBK.out.keep hb lrf).four;clear hb csg;go_wp2_with fail;exact bodyPost_ret (v:=tokE 7) (by simp[results,results32,go_sem,r0,r1,r2,r3,tokE,tokV]) rfl ⟨by rw[HN.out],below_set4 HB2.out lrf _ _ _ _⟩
    ·have hsc:sgC (decL s).1 s=false:=(by unfold sgC;rw[List.getElem?_eq_none (by omega),Bool.and_false]);have g1:¬ (1:Int) < s.length:=(by omega);rw[hsc,if_neg (by decide),if_neg h34n,if_neg (by rw[hsg];decide),if_neg (by rw[hor];decide)]at hV0;have HN:=Qh hV0;clear hsc hsg hV0 HV HH hl hdg hne cnum h34n;unfold ordB at hor;simp only[Bool.or_eq_false_iff]at hor;by_cases g3:(3:Int)≤s.length
     ·have hx3:=HX.out 3;obtain⟨⟨⟨e1,e2⟩,e3⟩,e4⟩:=hor;generalize s.take 3=T3 at *;exfalso;omega
     ·clear HX hor;go_enter func32,ntmps32
      go_wp2_with fail;with_reducible refine(cl _).mono ?_
      rintro e w1 ⟨rfl,rfl⟩;generalize w.alloc (.cells #[.int .i64 0,.string ⟨#[]⟩,.int .i64 0,.int .i64 0] 97)=W at *;obtain⟨⟨r0,r1,r2,r3⟩,f0,f1,f2,f3⟩:=HBK.out.four;clear cl;go_wp2_with fail;with_reducible refine(cdg _).mono ?_
      rintro e w2 ⟨rfl,rfl⟩;go_wp2_with fail;with_reducible refine(csg _).mono ?_
      rintro e w5 ⟨rfl,hb⟩;have HB2:=Qh (bstep HBW.out hb lrf);clear r0 r1 r2 r3 f0 f1 f2 f3;obtain⟨⟨r0,r1,r2,r3⟩,f0,f1,f2,f3⟩:=(HBK.out.keep hb lrf).four;clear hb csg;go_wp2_with fail;exact bodyPost_ret (v:=tokE 7) (by simp[results,results32,go_sem,r0,r1,r2,r3,tokE,tokV]) rfl ⟨by rw[HN.out],below_set4 HB2.out lrf _ _ _ _⟩
   by_cases hR:(decL s).1=45
   ·skip
    have g34:(((decL s).1:Int) == 34)=false:=(by rw[hR];rfl);have gR:(((decL s).1:Int) == 43)=false:=(by rw[hR];rfl);have gR2:(((decL s).1:Int) == 45)=true:=(by rw[hR];rfl);obtain⟨hsg,hor⟩:=hsg0 (by omega);have h34n:¬ (decL s).1=34:=(by rw[hR];decide);rw[hsg]at csg;have HR:=Qh hR;clear hR hsg0 h43;by_cases h1:1 < s.length
    ·have hsc:sgC (decL s).1 s=dgU s[1].toNat:=(by unfold sgC;rw[HR.out,List.getElem?_eq_getElem h1];rfl);rw[hsc]at hV0;have cd1:=ldigit_any s[1].toNat;have hget:(⟨s.toArray⟩:ByteArray)[1]'h1=s[1]:=rfl;have hw:IntKind.i32.wrap (s[1].toNat:Int)=(s[1].toNat:Int):=by
      have:=UInt8.toNat_lt s[1];unfold IntKind.wrap;simp[IntKind.bits,IntKind.signed];omega
     have g1:(1:Int) < s.length:=(by omega);cases hd1:dgU s[1].toNat
     case true=>
      rw[hd1]at cd1;rw[hd1,if_pos rfl]at hV0;generalize s[1]=c1 at *;clear hd1 hsc hsg hor h34n;clear HV HH hl csg hne hdg;by_cases h0:numN s=0
      ·have HN:=Qh (show V=tokE 8 by rw[hV0,if_pos h0]);rw[h0]at cnum;clear HX h0 hV0;go_enter func32,ntmps32
       go_wp2_with fail;with_reducible refine(cl _).mono ?_
       rintro e w1 ⟨rfl,rfl⟩;generalize w.alloc (.cells #[.int .i64 0,.string ⟨#[]⟩,.int .i64 0,.int .i64 0] 97)=W at *;obtain⟨⟨r0,r1,r2,r3⟩,f0,f1,f2,f3⟩:=HBK.out.four;clear cl;go_wp2_with fail;with_reducible refine(cdg _).mono ?_
       rintro e w2 ⟨rfl,rfl⟩;go_wp2_with fail;with_reducible refine(cd1 _).mono ?_
       rintro e w4 ⟨rfl,rfl⟩;clear cd1;go_wp2_with fail;with_reducible refine(cnum _).mono ?_
       rintro e w3 ⟨rfl,hb⟩;have HB2:=Qh (bstep HBW.out hb lrf);clear r0 r1 r2 r3 f0 f1 f2 f3;obtain⟨⟨r0,r1,r2,r3⟩,f0,f1,f2,f3⟩:=(HBK.out.keep hb lrf).four;clear hb cnum;go_wp2_with fail;exact bodyPost_ret (v:=tokE 8) (by simp[results,results32,go_sem,r0,r1,r2,r3,tokE,tokV]) rfl ⟨by rw[HN.out],below_set4 HB2.out lrf _ _ _ _⟩
      ·have HN0:=Qh (show V=tokG 2 (s.take (numN s)) (numN s)by rw[hV0,if_neg h0]);have hxN:=HX.out (numN s);have hn0:((numN s:Int) == 0)=false:=(by rw[beq_eq_false_iff_ne];omega);clear HX h0 hV0;generalize numN s=n at *;have HN:=Qh HN0.out;clear HN0;go_enter func32,ntmps32
       go_wp2_with fail;with_reducible refine(cl _).mono ?_
       rintro e w1 ⟨rfl,rfl⟩;generalize w.alloc (.cells #[.int .i64 0,.string ⟨#[]⟩,.int .i64 0,.int .i64 0] 97)=W at *;obtain⟨⟨r0,r1,r2,r3⟩,f0,f1,f2,f3⟩:=HBK.out.four;clear cl;go_wp2_with fail;with_reducible refine(cdg _).mono ?_
       rintro e w2 ⟨rfl,rfl⟩;go_wp2_with fail;with_reducible refine(cd1 _).mono ?_
       rintro e w4 ⟨rfl,rfl⟩;clear cd1;go_wp2_with fail;with_reducible refine(cnum _).mono ?_
       rintro e w3 ⟨rfl,hb⟩;have HB2:=Qh (bstep HBW.out hb lrf);clear r0 r1 r2 r3 f0 f1 f2 f3;obtain⟨⟨r0,r1,r2,r3⟩,f0,f1,f2,f3⟩:=(HBK.out.keep hb lrf).four;clear hb cnum;go_wp2_with fail;exact bodyPost_ret (v:=tokG 2 (s.take n) n) (by simp[results,results32,go_sem,r0,r1,r2,r3,tokG,tokV]) rfl ⟨by rw[HN.out],below_set4 HB2.out lrf _ _ _ _⟩
     case false=>
      rw[hd1]at cd1;rw[hd1,if_neg (by decide),if_neg h34n,if_neg (by rw[hsg];decide),if_neg (by rw[hor];decide)]at hV0;generalize s[1]=c1 at *;have HN:=Qh hV0;clear hd1 hsc hsg hV0 HV HH hl hdg hne cnum h34n;unfold ordB at hor;simp only[Bool.or_eq_false_iff]at hor;by_cases g3:(3:Int)≤s.length
      ·have hx3:=HX.out 3;obtain⟨⟨⟨e1,e2⟩,e3⟩,e4⟩:=hor;generalize s.take 3=T3 at *;clear HX;go_enter func32,ntmps32
       go_wp2_with fail;with_reducible refine(cl _).mono ?_
       rintro e w1 ⟨rfl,rfl⟩;generalize w.alloc (.cells #[.int .i64 0,.string ⟨#[]⟩,.int .i64 0,.int .i64 0] 97)=W at *;obtain⟨⟨r0,r1,r2,r3⟩,f0,f1,f2,f3⟩:=HBK.out.four;clear cl;go_wp2_with fail;with_reducible refine(cdg _).mono ?_
       rintro e w2 ⟨rfl,rfl⟩;go_wp2_with fail;with_reducible refine(cd1 _).mono ?_
       rintro e w4 ⟨rfl,rfl⟩;clear cd1;go_wp2_with fail;with_reducible refine(csg _).mono ?_
       rintro e w5 ⟨rfl,hb⟩;have HB2:=Qh (bstep HBW.out hb lrf);clear r0 r1 r2 r3 f0 f1 f2 f3;obtain⟨⟨r0,r1,r2,r3⟩,f0,f1,f2,f3⟩:=(HBK.out.keep hb lrf).four;clear hb csg;go_wp2_with fail;exact bodyPost_ret (v:=tokE 7) (by simp[results,results32,go_sem,r0,r1,r2,r3,tokE,tokV]) rfl ⟨by rw[HN.out],below_set4 HB2.out lrf _ _ _ _⟩
      ·clear HX hor;go_enter func32,ntmps32
       go_wp2_with fail;with_reducible refine(cl _).mono ?_
       rintro e w1 ⟨rfl,rfl⟩;generalize w.alloc (.cells #[.int .i64 0,.string ⟨#[]⟩,.int .i64 0,.int .i64 0] 97)=W at *;obtain⟨⟨r0,r1,r2,r3⟩,f0,f1,f2,f3⟩:=HBK.out.four;clear cl;go_wp2_with fail;with_reducible refine(cdg _).mono ?_
       rintro e w2 ⟨rfl,rfl⟩;go_wp2_with fail;with_reducible refine(cd1 _).mono ?_
       rintro e w4 ⟨rfl,rfl⟩;clear cd1;go_wp2_with fail;with_reducible refine(csg _).mono ?_
       rintro e w5 ⟨rfl,hb⟩;have HB2:=Qh (bstep HBW.out hb lrf);clear r0 r1 r2 r3 f0 f1 f2 f3;obtain⟨⟨r0,r1,r2,r3⟩,f0,f1,f2,f3⟩:=(HBK.out.keep hb lrf).four;clear hb csg;go_wp2_with fail;exact bodyPost_ret (v:=tokE 7) (by simp[results,results32,go_sem,r0,r1,r2,r3,tokE,tokV]) rfl ⟨by rw[HN.out],below_set4 HB2.out lrf _ _ _ _⟩
    ·have hsc:sgC (decL s).1 s=false:=(by unfold sgC;rw[List.getElem?_eq_none (by omega),Bool.and_false]);have g1:¬ (1:Int) < s.length:=(by omega);rw[hsc,if_neg (by decide),if_neg h34n,if_neg (by rw[hsg];decide),if_neg (by rw[hor];decide)]at hV0;have HN:=Qh hV0;clear hsc hsg hV0 HV HH hl hdg hne cnum h34n;unfold ordB at hor;simp only[Bool.or_eq_false_iff]at hor;by_cases g3:(3:Int)≤s.length
     ·have hx3:=HX.out 3;obtain⟨⟨⟨e1,e2⟩,e3⟩,e4⟩:=hor;generalize s.take 3=T3 at *;exfalso;omega
     ·clear HX hor;go_enter func32,ntmps32
      go_wp2_with fail;with_reducible refine(cl _).mono ?_
      rintro e w1 ⟨rfl,rfl⟩;generalize w.alloc (.cells #[.int .i64 0,.string ⟨#[]⟩,.int .i64 0,.int .i64 0] 97)=W at *;obtain⟨⟨r0,r1,r2,r3⟩,f0,f1,f2,f3⟩:=HBK.out.four;clear cl;go_wp2_with fail;with_reducible refine(cdg _).mono ?_
      rintro e w2 ⟨rfl,rfl⟩;go_wp2_with fail;with_reducible refine(csg _).mono ?_
      rintro e w5 ⟨rfl,hb⟩;have HB2:=Qh (bstep HBW.out hb lrf);clear r0 r1 r2 r3 f0 f1 f2 f3;obtain⟨⟨r0,r1,r2,r3⟩,f0,f1,f2,f3⟩:=(HBK.out.keep hb lrf).four;clear hb csg;go_wp2_with fail;exact bodyPost_ret (v:=tokE 7) (by simp[results,results32,go_sem,r0,r1,r2,r3,tokE,tokV]) rfl ⟨by rw[HN.out],below_set4 HB2.out lrf _ _ _ _⟩
   have hsc:sgC (decL s).1 s=false:=by
    unfold sgC;rw[bN h43,bN hR];rfl
   rw[hsc,if_neg (by decide)]at hV0;have gR:(((decL s).1:Int) == 43)=false:=(by rw[beq_eq_false_iff_ne];omega);have gR2:(((decL s).1:Int) == 45)=false:=(by rw[beq_eq_false_iff_ne];omega);clear hsc hsg0 HV hl hdg cnum h43 hR;by_cases h34:(decL s).1=34
   ·rw[if_pos h34]at hV0;have g34:(((decL s).1:Int) == 34)=true:=(by rw[h34];rfl);have hq:s.head? = some 34:=by
     have h9:=HH.out (by omega);rw[h9.1]at h34;rcases s with _|⟨c,t⟩
     ·exact absurd rfl hne
     ·simp only[List.getElem_cons_zero]at h34;have:c=34:=UInt8.toNat_inj.1 h34;rw[this];rfl
    have ct:=fun w hT=>text_any s hs hq w hT
    obtain⟨k,t,n,e,hte⟩:∃ (k:Int) (t:List UInt8) (n e:Int),textT s=.tuple #[tokV k t (0,0),.int .i64 n,.int .i64 e]:=by
     unfold textT textF;split
     ·exact⟨0,[],0,(6:Nat),rfl⟩
     ·split
      ·split
       ·exact⟨0,[],0,(5:Nat),rfl⟩
       ·exact⟨0,[],0,(6:Nat),rfl⟩
      ·exact⟨3,_,_,0,rfl⟩
    rw[hte]at hV0 ct;unfold tokV at ct;clear hte;have HN:=Qh hV0;clear hV0 h34 hq HH HX hne csg;go_enter func32,ntmps32
    go_wp2_with fail;with_reducible refine(cl _).mono ?_
    rintro e w1 ⟨rfl,rfl⟩;generalize w.alloc (.cells #[.int .i64 0,.string ⟨#[]⟩,.int .i64 0,.int .i64 0] 97)=W at *;obtain⟨⟨r0,r1,r2,r3⟩,f0,f1,f2,f3⟩:=HBK.out.four;clear cl;go_wp2_with fail;with_reducible refine(cdg _).mono ?_
    rintro e w2 ⟨rfl,rfl⟩;go_wp2_with fail;with_reducible refine(ct _ (HT.out.keep HBW.out)).mono ?_
    rintro e w5 ⟨rfl,hb⟩;have HB2:=Qh (bstep HBW.out hb lrf);clear r0 r1 r2 r3 f0 f1 f2 f3;obtain⟨⟨r0,r1,r2,r3⟩,f0,f1,f2,f3⟩:=(HBK.out.keep hb lrf).four;clear hb ct;go_wp2_with fail;exact bodyPost_ret (v:=.tuple #[tokV k t (0,0),.int .i64 n,.int .i64 e]) (by simp[results,results32,go_sem,r0,r1,r2,r3,tokV]) rfl ⟨by rw[HN.out],below_set4 HB2.out lrf _ _ _ _⟩
   ·rw[if_neg h34]at hV0;have g34:(((decL s).1:Int) == 34)=false:=(by rw[beq_eq_false_iff_ne];omega);clear h34 HH;cases hsg:sgU (decL s).1
    case true=>
     rw[hsg]at csg;rw[hsg,if_pos rfl]at hV0;have hx1:=HX.out 1;have g1:(1:Int)≤s.length:=(by omega);have HN:=Qh hV0;clear hV0 hsg HX hne;go_enter func32,ntmps32
     go_wp2_with fail;with_reducible refine(cl _).mono ?_
     rintro e w1 ⟨rfl,rfl⟩;generalize w.alloc (.cells #[.int .i64 0,.string ⟨#[]⟩,.int .i64 0,.int .i64 0] 97)=W at *;obtain⟨⟨r0,r1,r2,r3⟩,f0,f1,f2,f3⟩:=HBK.out.four;clear cl;go_wp2_with fail;with_reducible refine(cdg _).mono ?_
     rintro e w2 ⟨rfl,rfl⟩;go_wp2_with fail;with_reducible refine(csg _).mono ?_
     rintro e w5 ⟨rfl,hb⟩;have HB2:=Qh (bstep HBW.out hb lrf);clear r0 r1 r2 r3 f0 f1 f2 f3;obtain⟨⟨r0,r1,r2,r3⟩,f0,f1,f2,f3⟩:=(HBK.out.keep hb lrf).four;clear hb csg;go_wp2_with fail;exact bodyPost_ret (v:=tokG 4 (s.take 1) 1) (by simp[results,results32,go_sem,r0,r1,r2,r3,tokG,tokV]) rfl ⟨by rw[HN.out],below_set4 HB2.out lrf _ _ _ _⟩
    case false=>
     rw[hsg]at csg;rw[hsg,if_neg (by decide)]at hV0;have hV3:=hV0;clear hV0 hsg;by_cases h3:3≤s.length
     ·have hx3:=HX.out 3;have g3:(3:Int)≤s.length:=(by omega);unfold ordB at hV3;generalize s.take 3=T3 at *;clear HX hne h3;by_cases e4843:T3=[64,48,43]
      ·subst e4843;have HN:=Qh (show V=tokG 4 [64,48,43] 3 by rw[hV3];rfl);clear hV3;go_enter func32,ntmps32
       go_wp2_with fail;with_reducible refine(cl _).mono ?_
       rintro e w1 ⟨rfl,rfl⟩;generalize w.alloc (.cells #[.int .i64 0,.string ⟨#[]⟩,.int .i64 0,.int .i64 0] 97)=W at *;obtain⟨⟨r0,r1,r2,r3⟩,f0,f1,f2,f3⟩:=HBK.out.four;clear cl;go_wp2_with fail;with_reducible refine(cdg _).mono ?_
       rintro e w2 ⟨rfl,rfl⟩;go_wp2_with fail;with_reducible refine(csg _).mono ?_
       rintro e w5 ⟨rfl,hb⟩;have HB2:=Qh (bstep HBW.out hb lrf);clear r0 r1 r2 r3 f0 f1 f2 f3;obtain⟨⟨r0,r1,r2,r3⟩,f0,f1,f2,f3⟩:=(HBK.out.keep hb lrf).four;clear hb csg;go_wp2_with fail;exact bodyPost_ret (v:=tokG 4 [64,48,43] 3) (by simp[results,results32,go_sem,r0,r1,r2,r3,tokG,tokV]) rfl ⟨by rw[HN.out],below_set4 HB2.out lrf _ _ _ _⟩
      by_cases e4845:T3=[64,48,45]
      ·subst e4845;have HN:=Qh (show V=tokG 4 [64,48,45] 3 by rw[hV3];rfl);clear hV3;go_enter func32,ntmps32
       go_wp2_with fail;with_reducible refine(cl _).mono ?_
       rintro e w1 ⟨rfl,rfl⟩;generalize w.alloc (.cells #[.int .i64 0,.string ⟨#[]⟩,.int .i64 0,.int .i64 0] 97)=W at *;obtain⟨⟨r0,r1,r2,r3⟩,f0,f1,f2,f3⟩:=HBK.out.four;clear cl;go_wp2_with fail;with_reducible refine(cdg _).mono ?_
       rintro e w2 ⟨rfl,rfl⟩;go_wp2_with fail;with_reducible refine(csg _).mono ?_
       rintro e w5 ⟨rfl,hb⟩;have HB2:=Qh (bstep HBW.out hb lrf);clear r0 r1 r2 r3 f0 f1 f2 f3;obtain⟨⟨r0,r1,r2,r3⟩,f0,f1,f2,f3⟩:=(HBK.out.keep hb lrf).four;clear hb csg;go_wp2_with fail;exact bodyPost_ret (v:=tokG 4 [64,48,45] 3) (by simp[results,results32,go_sem,r0,r1,r2,r3,tokG,tokV]) rfl ⟨by rw[HN.out],below_set4 HB2.out lrf _ _ _ _⟩
      by_cases e4943:T3=[64,49,43]
      ·subst e4943;have HN:=Qh (show V=tokG 4 [64,49,43] 3 by rw[hV3];rfl);clear hV3;go_enter func32,ntmps32
       go_wp2_with fail;with_reducible refine(cl _).mono ?_
       rintro e w1 ⟨rfl,rfl⟩;generalize w.alloc (.cells #[.int .i64 0,.string ⟨#[]⟩,.int .i64 0,.int .i64 0] 97)=W at *;obtain⟨⟨r0,r1,r2,r3⟩,f0,f1,f2,f3⟩:=HBK.out.four;clear cl;go_wp2_with fail;with_reducible refine(cdg _).mono ?_
       rintro e w2 ⟨rfl,rfl⟩;go_wp2_with fail;with_reducible refine(csg _).mono ?_
       rintro e w5 ⟨rfl,hb⟩;have HB2:=Qh (bstep HBW.out hb lrf);clear r0 r1 r2 r3 f0 f1 f2 f3;obtain⟨⟨r0,r1,r2,r3⟩,f0,f1,f2,f3⟩:=(HBK.out.keep hb lrf).four;clear hb csg;go_wp2_with fail;exact bodyPost_ret (v:=tokG 4 [64,49,43] 3) (by simp[results,results32,go_sem,r0,r1,r2,r3,tokG,tokV]) rfl ⟨by rw[HN.out],below_set4 HB2.out lrf _ _ _ _⟩
      by_cases e4945:T3=[64,49,45]
      ·subst e4945;have HN:=Qh (show V=tokG 4 [64,49,45] 3 by rw[hV3];rfl);clear hV3;go_enter func32,ntmps32
       go_wp2_with fail;with_reducible refine(cl _).mono ?_
       rintro e w1 ⟨rfl,rfl⟩;generalize w.alloc (.cells #[.int .i64 0,.string ⟨#[]⟩,.int .i64 0,.int .i64 0] 97)=W at *;obtain⟨⟨r0,r1,r2,r3⟩,f0,f1,f2,f3⟩:=HBK.out.four;clear cl;go_wp2_with fail;with_reducible refine(cdg _).mono ?_
       rintro e w2 ⟨rfl,rfl⟩;go_wp2_with fail;with_reducible refine(csg _).mono ?_
       rintro e w5 ⟨rfl,hb⟩;have HB2:=Qh (bstep HBW.out hb lrf);clear r0 r1 r2 r3 f0 f1 f2 f3;obtain⟨⟨r0,r1,r2,r3⟩,f0,f1,f2,f3⟩:=(HBK.out.keep hb lrf).four;clear hb csg;go_wp2_with fail;exact bodyPost_ret (v:=tokG 4 [64,49,45] 3) (by simp[results,results32,go_sem,r0,r1,r2,r3,tokG,tokV]) rfl ⟨by rw[HN.out],below_set4 HB2.out lrf _ _ _ _⟩
      have b1:(T3 == [64,48,43])=false:=bN e4843;have b2:(T3 == [64,48,45])=false:=bN e4845;have b3:(T3 == [64,49,43])=false:=bN e4943;have b4:(T3 == [64,49,45])=false:=bN e4945;have HN:=Qh (show V=tokE 7 by rw[hV3,b1,b2,b3,b4];rfl);clear hV3 e4843 e4845 e4943 e4945;go_enter func32,ntmps32
      go_wp2_with fail;with_reducible refine(cl _).mono ?_
      rintro e w1 ⟨rfl,rfl⟩;generalize w.alloc (.cells #[.int .i64 0,.string ⟨#[]⟩,.int .i64 0,.int .i64 0] 97)=W at *;obtain⟨⟨r0,r1,r2,r3⟩,f0,f1,f2,f3⟩:=HBK.out.four;clear cl;go_wp2_with fail;with_reducible refine(cdg _).mono ?_
      rintro e w2 ⟨rfl,rfl⟩;go_wp2_with fail;with_reducible refine(csg _).mono ?_
      rintro e w5 ⟨rfl,hb⟩;have HB2:=Qh (bstep HBW.out hb lrf);clear r0 r1 r2 r3 f0 f1 f2 f3;obtain⟨⟨r0,r1,r2,r3⟩,f0,f1,f2,f3⟩:=(HBK.out.keep hb lrf).four;clear hb csg;go_wp2_with fail;exact bodyPost_ret (v:=tokE 7) (by simp[results,results32,go_sem,r0,r1,r2,r3,tokE,tokV]) rfl ⟨by rw[HN.out],below_set4 HB2.out lrf _ _ _ _⟩
     ·have g3:¬ (3:Int)≤s.length:=(by omega);have HN:=Qh (show V=tokE 7 by
       rw[hV3,if_neg];unfold ordB;have hl3:(s.take 3).length < 3:=(by rw[List.length_take];omega);have hb:∀ a b c,(s.take 3 == [a,b,c])=false:=fun a b c=>by
        rw[beq_eq_false_iff_ne];intro e;rw[e]at hl3;simp at hl3
       rw[hb,hb,hb,hb];decide)
      clear HX hne hV3 h3;go_enter func32,ntmps32
      go_wp2_with fail;with_reducible refine(cl _).mono ?_
      rintro e w1 ⟨rfl,rfl⟩;generalize w.alloc (.cells #[.int .i64 0,.string ⟨#[]⟩,.int .i64 0,.int .i64 0] 97)=W at *;obtain⟨⟨r0,r1,r2,r3⟩,f0,f1,f2,f3⟩:=HBK.out.four;clear cl;go_wp2_with fail;with_reducible refine(cdg _).mono ?_
      rintro e w2 ⟨rfl,rfl⟩;go_wp2_with fail;with_reducible refine(csg _).mono ?_
      rintro e w5 ⟨rfl,hb⟩;have HB2:=Qh (bstep HBW.out hb lrf);clear r0 r1 r2 r3 f0 f1 f2 f3;obtain⟨⟨r0,r1,r2,r3⟩,f0,f1,f2,f3⟩:=(HBK.out.keep hb lrf).four;clear hb csg;go_wp2_with fail;exact bodyPost_ret (v:=tokE 7) (by simp[results,results32,go_sem,r0,r1,r2,r3,tokE,tokV]) rfl ⟨by rw[HN.out],below_set4 HB2.out lrf _ _ _ _⟩
end Go.Proofs.YtkblpaabknjckaaGreatDoor
