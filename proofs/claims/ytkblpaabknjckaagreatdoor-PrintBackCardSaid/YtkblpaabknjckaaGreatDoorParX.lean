/-
  rat's Parse: contract.
-/
import Derived.Test.YtkblpaabknjckaaGreatDoorParS
import Derived.Test.YtkblpaabknjckaaGreatDoorParW
import Derived.Test.YtkblpaabknjckaaGreatDoorBaseD
set_option maxHeartbeats 128000000
set_option linter.unusedVariables false
namespace Go.Proofs.YtkblpaabknjckaaGreatDoor
open Go.RowKit
theorem dec_ten {V:Nat} (hV:0 < V):Lib.decDigits (V*10)=Lib.decDigits V++[48]:=by
 obtain⟨k,h1,h2,h3⟩:=dec_len V;rw[dec_pad (k+1) (V*10) (by rw[Nat.pow_succ];omega) (.inr (by
  rw[Nat.pow_succ];rcases h3 with rfl|h3
  ·rw[Nat.pow_zero];omega
  ·omega)),padD_snoc,Nat.mul_div_cancel _ (by decide),h1]
 congr 2
 unfold dgt;rw[Nat.mul_mod_left];rfl
theorem dec_tens {V:Nat} (hV:0 < V) (e:Nat):Lib.decDigits (V*10 ^ e)=Lib.decDigits V++List.replicate e 48:=by
 induction e with
 | zero=>simp
 | succ e ih=>
  rw[Nat.pow_succ,← Nat.mul_assoc,dec_ten (Nat.mul_pos hV (p10 e)),ih,List.append_assoc,← List.replicate_succ']
theorem strip_tens (V:Nat) (hV:0 < V):∃ v z,V=v*10 ^ z∧v % 10≠0∧0 < v:=by
 induction V using Nat.strongRecOn with
 | _ V ih=>
  by_cases h:V % 10=0
  ·obtain⟨v,z,h1,h2,h3⟩:=ih (V / 10) (Nat.div_lt_self hV (by decide)) (by omega);exact⟨v,z+1,by rw[Nat.pow_succ,← Nat.mul_assoc,← h1];omega,h2,h3⟩
  ·exact⟨V,0,by simp,h,hV⟩
theorem drop_rep (z:Nat) (l:List UInt8):(List.replicate z 48++l).dropWhile (fun c:UInt8=>c == 48)=l.dropWhile (fun c=>c == 48):=by
 induction z with
 | zero=>simp
 | succ z ih=>rw[List.replicate_succ,List.cons_append,List.dropWhile_cons,if_pos (by simp),ih]
theorem trim_dec {v:Nat} (z:Nat) (hv:0 < v) (hz:v % 10≠0):Lib.trimRightB (Lib.decDigits (v*10 ^ z)) 48=Lib.decDigits v:=by
 obtain⟨P,hP⟩:=dec_last v;have hn:dgt v≠48:=by
  intro h;have h2:=dgt_val v;rw[h]at h2;have h48:UInt8.toNat 48=48:=rfl;omega
 unfold Lib.trimRightB;rw[dec_tens hv,List.reverse_append,List.reverse_replicate];show(List.dropWhile (fun c=>c == 48) _).reverse=_;rw[drop_rep,hP,List.reverse_append];show(List.dropWhile (fun c=>c == 48) (dgt v::P.reverse)).reverse=_;rw[List.dropWhile_cons,if_neg (by simpa using hn),List.reverse_cons,List.reverse_reverse]
theorem rep_zero (e:Nat):Lib.repeatL [48] e=List.replicate e 48:=by
 induction e with
 | zero=>rfl
 | succ e ih=>rw[List.replicate_succ,← ih];rfl
theorem left_zero {d:List UInt8} (hd:digL d) (h:valL d=0):d.dropWhile (fun c=>c == 48)=[]:=by
 cases he:d.dropWhile (fun c=>c == 48)with
 | nil=>rfl
 | cons c l=>
  have h1:=val_drop d;rw[he,h]at h1;have hsub:digL (c::l):=fun x hx=>hd x (by
   have:x∈d.dropWhile (fun c=>c == 48):=by rw[he];exact hx
   exact(List.dropWhile_sublist _).subset this)
  have hc:c≠48:=by
   intro h2;have h3:=List.head_dropWhile_not (p:=fun c:UInt8=>c == 48) (l:=d) (by rw[he];simp);simp only[he,List.head_cons]at h3;rw[h2]at h3;simp at h3
  have:=(dec_canon hsub hc).2;rw[h1]at this;have:=p10 l.length;omega
theorem left_dec {d:List UInt8} (hd:digL d) (h:0 < valL d):d.dropWhile (fun c=>c == 48)=Lib.decDigits (valL d):=by
 have:=drop_pad d.length (valL d) h (valL_lt hd)
 rwa [pad_valL hd]at this
theorem tw_dg (l:List UInt8):digL (tw l):=by
 intro c hc;unfold tw at hc
 induction l with
 | nil=>simp at hc
 | cons a t ih=>
  rw[List.takeWhile_cons]at hc;split at hc
  ·rename_i h
   rcases List.mem_cons.1 hc with rfl|h2
   ·exact h
   ·exact ih h2
  ·simp at hc
theorem tw_dw_len (l:List UInt8):(tw l).length+(dw l).length=l.length:=by
 have:=congrArg List.length (List.takeWhile_append_dropWhile (p:=isDg) (l:=l));rw[List.length_append]at this;exact this
theorem cutS_len (s:List UInt8):(cutS s).2.length≤s.length:=by
 unfold cutS;split
 ·simp
 ·split<;>simp
theorem cutP_facts {s b r:List UInt8} (h:cutP s=some (b,r)):digL b∧b.length≤s.length:=by
 unfold cutP at h;split at h
 ·cases h;exact⟨fun c hc=>absurd hc (by simp),by simp⟩
 ·rename_i c t
  split at h
  ·split at h
   ·cases h
   ·cases h
    have:=tw_dw_len t;exact⟨tw_dg t,by rw[List.length_cons];omega⟩
  ·cases h;exact⟨fun c hc=>absurd hc (by simp),by simp⟩
theorem powS_le (l:List UInt8):∀ n,n≤1000→powS n l≤1000:=by
 induction l with
 | nil=>intro n h;exact h
 | cons c l ih=>intro n h;rw[powS_cons];exact ih _ (Nat.min_le_right _ _)
theorem read_facts {s d:List UInt8} {neg:Bool} {p:Int} (h:readL s=some (neg,d,p)):digL d∧d.length≤s.length∧-(1000+(s.length:Int))≤p∧p≤1000:=by
 rw[read_cut]at h;unfold cutL at h;split at h
 ·cases h
 ·rename_i h1
  cases hp:cutP (dw (cutS s).2)with
  | none=>rw[hp]at h;cases h
  | some br=>
   obtain⟨b,r⟩:=br;rw[hp]at h;simp only at h;cases he:cutE r with
   | none=>rw[he]at h;cases h
   | some q=>
    obtain⟨down,pw,z⟩:=q;rw[he]at h;simp only at h;split at h
    ·simp only[Option.map_some,Option.some.injEq,Prod.mk.injEq]at h;obtain⟨h2,rfl,rfl⟩:=h;obtain⟨f1,f2⟩:=cutP_facts hp;have f3:=tw_dw_len (cutS s).2;have f4:=cutS_len s;have f5:powL pw≤1000:=powS_le pw 0 (by decide);refine⟨fun c hc=>(List.mem_append.1 hc).elim (tw_dg _ c) (f1 c),by rw[List.length_append];omega,?_,?_⟩
     ·unfold sgP;split<;>omega
     ·unfold sgP;split<;>omega
    ·cases h
def parseR (R:Option (Bool×List UInt8×Int)):Value:=
 match R with
 | none=>.tuple #[.agg #[.int .i64 0,.int .i64 0],errV 8]
 | some (neg,d,p)=>ratV (parseF neg (valL d) p)
def parseV (s:List UInt8):Value:=
 if 96 < s.length then .tuple #[.agg #[.int .i64 0,.int .i64 0],errV 3] else parseR (readL s)
open Go.Proofs.Tryz
set_option maxRecDepth 100000 in theorem parse_any (s : List UInt8) (hs : s.length ≤ 9223372036854775807) (w : World) :
  Calls prog 129 #[.string ⟨s.toArray⟩] w fun e w'=>e=.returned (parseV s)∧Below w.heap.size w w':=by
 obtain⟨F,hF⟩:∃ F,F=parseV s:=⟨_,rfl⟩
 rw[← hF];have HF:=Qh hF;clear hF;obtain⟨tr,hsz,hbw⟩:=box1 w #[.int .i64 0,.int .i64 0] 87;have TR:=Qh tr;have HBW:=Qh hbw;clear tr hbw;by_cases h96:(96:Int) < s.length
 ·have HN:=Qh (show F=.tuple #[.agg #[.int .i64 0,.int .i64 0],errV 3]by rw[HF.out];unfold parseV;rw[if_pos (by omega)]);clear HF;go_enter func129,ntmps129
  go_wp2_with fail;generalize w.alloc (.cells #[.int .i64 0,.int .i64 0] 87)=W at *;obtain⟨r0,r1,r2,r3⟩:=TR.out.two;exact bodyPost_ret (v:=.tuple #[.agg #[.int .i64 0,.int .i64 0],errV 3]) (by simp[results,results129,go_sem,r0,r1,errV]) rfl ⟨by rw[HN.out],HBW.out⟩
 have cr:=read_any s (by omega);have HF2:=Qh (show F=parseR (readL s)by rw[HF.out];unfold parseV;rw[if_neg (by omega)]);have HFA:=Qh (fun neg d p (h:readL s=some (neg,d,p))=>read_facts h);clear HF;generalize readL s=R at *;go_enter func129,ntmps129
 go_wp2_with fail;generalize w.alloc (.cells #[.int .i64 0,.int .i64 0] 87)=W at *;with_reducible refine(cr _).mono ?_
 rintro e w1 ⟨neg,d,p,b,rfl,hb1,hok⟩;clear cr;have TR1:=Qh (TR.out.keep hb1 lrf);have HB1:=Qh (show Below w.heap.size w w1 from bstep HBW.out hb1 (by omega));have hs1:=Qh (show w.heap.size+1≤w1.heap.size by have:=hb1.size;omega);clear hb1 TR HBW hsz;obtain⟨tn,hsz,hbw⟩:=box1 w1 #[.bool neg,.string ⟨d.toArray⟩,.int .i64 p] 241;have TN:=Qh tn;have TR2:=Qh (TR1.out.keep hbw lrf);have HB2:=Qh (show Below w.heap.size w (w1.alloc (.cells #[.bool neg,.string ⟨d.toArray⟩,.int .i64 p] 241))from bstep HB1.out hbw (by have:=hs1.out;omega));clear tn hbw TR1 HB1;have HOK:=Qh hok;clear hok;cases b
 ·have HN:=Qh (show F=.tuple #[.agg #[.int .i64 0,.int .i64 0],errV 8]by
   rw[HF2.out];have h:=HOK.out;cases R with
   | none=>rfl
   | some x=>obtain⟨n',d',p'⟩:=x;exact absurd h.1 (by decide))
  obtain⟨r0,r1,r2,r3⟩:=TR2.out.two;go_wp2_with fail;generalize w1.alloc (.cells #[.bool neg,.string ⟨d.toArray⟩,.int .i64 p] 241)=W2 at *;exact bodyPost_ret (v:=.tuple #[.agg #[.int .i64 0,.int .i64 0],errV 8]) (by simp[results,results129,go_sem,r0,r1,errV]) rfl ⟨by rw[HN.out],(HB2.out.setCell (by simp) _).setCell (by simp) _⟩
 ·have hR:R=some (neg,d,p):=by
   have h:=HOK.out;cases R with
   | none=>exact absurd (show true=false from h) (by decide)
   | some x=>obtain⟨n',d',p'⟩:=x;obtain⟨_,rfl,rfl,rfl⟩:=h;rfl
  have HF3:=Qh (show F=ratV (parseF neg (valL d) p)by rw[HF2.out,hR];rfl);obtain⟨hdg,hdl,hp1,hp2⟩:=HFA.out neg d p hR;have HDG:=Qh hdg;clear HF2 HFA HOK hR hdg;go_wp2_with fail;generalize w1.alloc (.cells #[.bool neg,.string ⟨d.toArray⟩,.int .i64 p] 241)=W2 at *;have HNB:=Qh (show w1.heap.size≠w.heap.size by have:=hs1.out;omega);generalize hA:w1.heap.size=A at *;clear hA;obtain⟨r0,r1,r2,r3⟩:=TR2.out.two;obtain⟨a0,a1,a2,a3,a4,a5⟩:=TN.out.three;rcases Nat.eq_zero_or_pos (valL d)with hV|hV
  ·have HN:=Qh (show F=ratV (some (0,1))by rw[HF3.out,hV];unfold parseF;rw[Nat.zero_mul,frac_zero]);have ct:∀ w:World,Calls prog 152 #[.string ⟨d.toArray⟩,.string ⟨#[48]⟩] w fun e w'=>e=.returned (.string ⟨#[]⟩)∧w' = w:=fun w=>by
    have h:=Tryz.strings_TrimLeft_one ⟨d.toArray⟩ 48 (by decide) w;rw[show Lib.trimLeftB (⟨d.toArray⟩:ByteArray).data.toList 48=[]from left_zero HDG.out hV]at h;exact h
   clear hV HF3;with_reducible refine(ct _).mono ?_
   rintro e w3 ⟨rfl,rfl⟩;clear ct;go_wp2_with fail;exact bodyPost_ret (v:=.tuple #[.agg #[.int .i64 0,.int .i64 1],.nilIface]) (by simp[results,results129,go_sem,r0,r1]) rfl ⟨by rw[HN.out];rfl,(HB2.out.setCell (by simp) _).setCell (by simp) _⟩
  ·obtain⟨v,z,hvz,hz,hv⟩:=strip_tens (valL d) hV;have ct:∀ w:World,Calls prog 152 #[.string ⟨d.toArray⟩,.string ⟨#[48]⟩] w fun e w'=>e=.returned (.string ⟨(Lib.decDigits (v*10 ^ z)).toArray⟩)∧w' = w:=fun w=>by
    have h:=Tryz.strings_TrimLeft_one ⟨d.toArray⟩ 48 (by decide) w;rw[show Lib.trimLeftB (⟨d.toArray⟩:ByteArray).data.toList 48=Lib.decDigits (v*10 ^ z)from hvz ▸ left_dec HDG.out hV]at h;exact h
   have hl1:(Lib.decDigits (v*10 ^ z)).length=(Lib.decDigits v).length+z:=(by rw[dec_tens hv,List.length_append,List.length_replicate]);have hl2:(Lib.decDigits (v*10 ^ z)).length≤96:=by
    have h2:=left_dec HDG.out hV;have h3:=(List.dropWhile_sublist (fun c:UInt8=>c == 48) (l:=d)).length_le;rw[h2,hvz]at h3;omega
   have cu:∀ w:World,Calls prog 153 #[.string ⟨(Lib.decDigits (v*10 ^ z)).toArray⟩,.string ⟨#[48]⟩] w fun e w'=>e=.returned (.string ⟨(Lib.decDigits v).toArray⟩)∧w' = w:=fun w=>by
    have h:=Tryz.strings_TrimRight_one ⟨(Lib.decDigits (v*10 ^ z)).toArray⟩ 48 (by decide) w (by show(Lib.decDigits (v*10 ^ z)).length≤_;omega);rw[show Lib.trimRightB (⟨(Lib.decDigits (v*10 ^ z)).toArray⟩:ByteArray).data.toList 48=Lib.decDigits v from trim_dec z hv hz]at h;exact h
   have HF4:=Qh (show F=ratV (parseF neg v (p+z))by rw[HF3.out,hvz,parseF_shift]);have hne:Lib.decDigits (v*10 ^ z)≠[]:=(by intro h;rw[h]at hl1;have h3:=dec_valL v;have:Lib.decDigits v=[]:=List.length_eq_zero_iff.1 (by simp at hl1;omega);rw[this]at h3;simp[valL,valS]at h3;omega);have HZ:=Qh (And.intro hv hz);have hl0:0 < (Lib.decDigits v).length:=by
    obtain⟨P,hP⟩:=dec_last v;rw[hP];simp
   clear HF3 hvz hz hV HDG;generalize hL1:Lib.decDigits (v*10 ^ z)=L1 at *;clear hL1;have cs:=fun (hneg:p+(z:Int) < 0)=>rsmall_any neg v (-(p+(z:Int))).toNat hv HZ.out.2 (by omega) (by omega)
   generalize hL2:Lib.decDigits v=L2 at *;have HL2:=Qh hL2;clear hL2;have hlz:(L1.length:Int) - (L2.length:Int)=(z:Int):=(by omega);have HLZ:=Qh hl1;clear hl1;obtain⟨ex,hex⟩:∃ ex:Int,ex=p+(z:Int):=⟨_,rfl⟩
   rw[← hex]at HF4 cs;have hex':p+(z:Int)=ex:=hex.symm;have hx1:ex≤1100:=(by omega);have hx2:-1100≤ex:=(by omega);clear hex hv;have hne2:L1.isEmpty=false:=by cases L1 with|nil=>exact absurd rfl hne|cons=>rfl
   have HNE:=Qh hne;clear hne;with_reducible refine(ct _).mono ?_
   rintro e w3 ⟨rfl,rfl⟩;clear ct;go_wp2_with fail;with_reducible refine(cu _).mono ?_
   rintro e w4 ⟨rfl,rfl⟩;clear cu;by_cases hpos:0≤ex
   ·obtain⟨e,rfl⟩:∃ e:Nat,ex=(e:Int):=⟨ex.toNat,by omega⟩
    clear cs;have HF5:=Qh (show F=ratV (frac neg (v*10 ^ e) 1)by
     rw[HF4.out];unfold parseF;rw[show(e:Int).toNat=e by omega,show(-(e:Int)).toNat=0 by omega,Nat.pow_zero])
    have hdt:=dec_tens HZ.out.1 e;rw[HL2.out]at hdt;by_cases hbig:(19:Int) < (L2.length:Int)+(e:Int)
    ·have HN:=Qh (show F=ratV none by
      rw[HF5.out,frac_over_num];have:=dec_ge (V:=v*10 ^ e) (by rw[hdt,List.length_append,List.length_replicate];omega);omega)
     clear hdt HF4 HF5;go_wp2_with fail;exact bodyPost_ret (v:=.tuple #[.agg #[.int .i64 0,.int .i64 0],errV 9]) (by simp[results,results129,go_sem,r0,r1,errV]) rfl ⟨by rw[HN.out];rfl,((HB2.out.setCell (by have:=hs1.out;show w.heap.size≤A;omega) _).setCell (by simp) _).setCell (by simp) _⟩
    ·have hnlt:=dec_lt (V:=v*10 ^ e) (by rw[hdt,List.length_append,List.length_replicate];omega);have cr:∀ w:World,Calls prog 154 #[.string ⟨#[48]⟩,.int .i64 (e:Nat)] w fun e' w'=>e' = .returned (.string ⟨(List.replicate e 48).toArray⟩)∧Below w.heap.size w w':=fun w=>by
      have h:=Tryz.strings_Repeat ⟨#[48]⟩ e w (by omega) (by show 1*e≤_;omega);rw[show Lib.repeatL (⟨#[48]⟩:ByteArray).data.toList e=List.replicate e 48 from rep_zero e]at h;exact h
     have hzl:(List.replicate e (48:UInt8)).length=e:=List.length_replicate;have hnp:0 < v*10 ^ e:=Nat.mul_pos HZ.out.1 (p10 e);have cp:=Tryz.strconv_ParseUint_10_at64_ok ⟨(L2++List.replicate e 48).toArray⟩ (by show(L2++List.replicate e 48).length≤_;rw[List.length_append,hzl];omega) (v*10 ^ e) (by
      show Lib.parseUintB 64 (L2++List.replicate e 48)=_;rw[← hdt];have:=pu_ok (dec_digL (v*10 ^ e)) (by intro h;have h3:=dec_valL (v*10 ^ e);rw[h]at h3;simp only[valL,valS,List.foldl_nil]at h3;omega) (by rw[dec_valL];omega)
      rwa [dec_valL]at this)
     have cf:=fit_any neg (v*10 ^ e) 1 (by omega) (by decide);rw[Nat.div_eq_of_lt (show v*10 ^ e < 18446744073709551616 by omega),Nat.mod_eq_of_lt (show v*10 ^ e < 18446744073709551616 by omega),← frac_one]at cf;obtain⟨G,hG⟩:∃ G,G=frac neg (v*10 ^ e) 1:=⟨_,rfl⟩
     rw[← hG]at cf HF5;clear hG HF4 hdt hnp;generalize v*10 ^ e=n at *;have cg:∀ w:World,Calls prog 155 #[.bool neg,.int .u64 0,.int .u64 (n:Nat),.int .u64 0,.int .u64 1] w fun e w'=>e=.returned (ratV G)∧Below w.heap.size w w':=cf
     clear cf;have hst:=strA L2 (List.replicate e 48);generalize List.replicate e (48:UInt8)=Z at *;have hl3:¬ 9223372036854775807 < L2.length+Z.length:=(by omega);have hl4:L2.length < 9223372036854775807:=(by omega);have hl5:Z.length < 9223372036854775807:=(by omega);have HZL:=Qh hzl;clear hzl;have TN3:=Qh (show Blk (w4.setCell ⟨A,2,none⟩ (.int .i64 (e:Nat))) A #[.bool neg,.string ⟨d.toArray⟩,.int .i64 (e:Nat)]from TN.out.set 2 (.int .i64 (e:Nat)));have TR3:=Qh (TR2.out.other (a:=⟨A,2,none⟩) HNB.out (.int .i64 (e:Nat)));have HB3:=Qh (show Below w.heap.size w (w4.setCell ⟨A,2,none⟩ (.int .i64 (e:Nat)))from HB2.out.setCell (by have:=hs1.out;show w.heap.size≤A;omega) _);have hs3:=Qh (show w.heap.size≤(w4.setCell ⟨A,2,none⟩ (.int .i64 (e:Nat))).heap.size from HB3.out.size);go_wp2_with fail;generalize w4.setCell ⟨A,2,none⟩ (.int .i64 (e:Nat))=W3 at *;clear r0 r1 r2 r3 a0 a1 a2 a3 a4 a5;with_reducible refine(cr _).mono ?_
     rintro e' w5 ⟨rfl,hb5⟩;clear cr;have TN5:=Qh (TN3.out.keep hb5 lrf);have TR5:=Qh (TR3.out.keep hb5 lrf);have HB5:=Qh (show Below w.heap.size w w5 from bstep HB3.out hb5 lrf);have hs5:=Qh HB5.out.size;clear hb5;go_wp2_with fail;with_reducible refine(cp _).mono ?_
     rintro e' w6 ⟨rfl,hb6⟩;clear cp;replace hb6:=below_or hb6;have TN6:=Qh (TN5.out.keep hb6 lrf);have TR6:=Qh (TR5.out.keep hb6 lrf);have HB6:=Qh (show Below w.heap.size w w6 from bstep HB5.out hb6 lrf);have hs6:=Qh HB6.out.size;clear hb6;obtain⟨a0,a1,a2,a3,a4,a5⟩:=TN6.out.three;go_wp2_with fail;with_reducible refine(cg _).mono ?_
     rintro e' w7 ⟨rfl,hb7⟩;clear cg;have TR7:=Qh (TR6.out.keep hb7 lrf);have HB7:=Qh (show Below w.heap.size w w7 from bstep HB6.out hb7 lrf);clear hb7 a0 a1 a2 a3 a4 a5;obtain⟨r0,r1,r2,r3⟩:=TR7.out.two;rcases G with _|⟨x,y⟩
     ·simp only[ratV,errV];go_wp2_with fail;exact bodyPost_ret (v:=.tuple #[.agg #[.int .i64 0,.int .i64 0],errV 9]) (by simp[results,results129,go_sem,r0,r1,errV]) rfl ⟨by rw[HF5.out];rfl,(HB7.out.setCell (by simp) _).setCell (by simp) _⟩
     ·simp only[ratV];go_wp2_with fail;exact bodyPost_ret (v:=.tuple #[.agg #[.int .i64 x,.int .i64 y],.nilIface]) (by simp[results,results129,go_sem,r0,r1]) rfl ⟨by rw[HF5.out];rfl,(HB7.out.setCell (by simp) _).setCell (by simp) _⟩
   ·obtain⟨k,hk⟩:∃ k:Nat,-ex=(k:Int):=⟨(-ex).toNat,by omega⟩
    have hkn:(-ex).toNat=k:=(by omega);have HF5:=Qh (show F=ratV (frac neg v (10 ^ k))by
     rw[HF4.out];unfold parseF;rw[show ex.toNat=0 by omega,hkn,Nat.pow_zero,Nat.mul_one])
    have cg:=cs (by omega);rw[hkn]at cg;obtain⟨G,hG⟩:∃ G,G=frac neg v (10 ^ k):=⟨_,rfl⟩
    rw[← hG]at cg HF5;clear hG HF4 hkn cs;have TN3:=Qh (show Blk (w4.setCell ⟨A,2,none⟩ (.int .i64 ex)) A #[.bool neg,.string ⟨d.toArray⟩,.int .i64 ex]from TN.out.set 2 (.int .i64 ex));have TR3:=Qh (TR2.out.other (a:=⟨A,2,none⟩) HNB.out (.int .i64 ex));have HB3:=Qh (show Below w.heap.size w (w4.setCell ⟨A,2,none⟩ (.int .i64 ex))from HB2.out.setCell (by have:=hs1.out;show w.heap.size≤A;omega) _);have hs3:=Qh (show w.heap.size≤(w4.setCell ⟨A,2,none⟩ (.int .i64 ex)).heap.size from HB3.out.size);go_wp2_with fail;generalize w4.setCell ⟨A,2,none⟩ (.int .i64 ex)=W3 at *;clear r0 r1 r2 r3 a0 a1 a2 a3 a4 a5;with_reducible refine(cg _).mono ?_
    rintro e' w7 ⟨rfl,hb7⟩;clear cg;have TR7:=Qh (TR3.out.keep hb7 lrf);have HB7:=Qh (show Below w.heap.size w w7 from bstep HB3.out hb7 lrf);clear hb7;obtain⟨r0,r1,r2,r3⟩:=TR7.out.two;rcases G with _|⟨x,y⟩
    ·simp only[ratV,errV];go_wp2_with fail;exact bodyPost_ret (v:=.tuple #[.agg #[.int .i64 0,.int .i64 0],errV 9]) (by simp[results,results129,go_sem,r0,r1,errV]) rfl ⟨by rw[HF5.out];rfl,(HB7.out.setCell (by simp) _).setCell (by simp) _⟩
    ·simp only[ratV];go_wp2_with fail;exact bodyPost_ret (v:=.tuple #[.agg #[.int .i64 x,.int .i64 y],.nilIface]) (by simp[results,results129,go_sem,r0,r1]) rfl ⟨by rw[HF5.out];rfl,(HB7.out.setCell (by simp) _).setCell (by simp) _⟩
end Go.Proofs.YtkblpaabknjckaaGreatDoor
