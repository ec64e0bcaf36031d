/-
  Layer 7: a signal's order and role, in the program and in the reference: contracts.
-/
import Derived.Test.YtkblpaabknjckaaGreatDoorBaseD
import Derived.Test.YtkblpaabknjckaaGreatDoorLexB
import Derived.Test.YtkblpaabknjckaaGreatDoorLexM
import Derived.Test.YtkblpaabknjckaaGreatDoorRlxN
import Derived.Test.YtkblpaabknjckaaGreatDoorBaseC
import Derived.Test.YtkblpaabknjckaaGreatDoorTxtP
import Derived.Laws.IdiomStrings
import Derived.Test.YtkblpaabknjckaaGreatDoorParR
import Derived.Lib.SmallJoins
set_option maxHeartbeats 128000000
set_option linter.unusedVariables false
namespace Go.Proofs.YtkblpaabknjckaaGreatDoor
open Go.Proofs.Tryz
open Go.RowKit Go.Shelf
theorem cletter_any (r:Nat) (w:World) :
  Calls prog 112 #[.int .i32 (r:Nat)] w fun e w'=>e=.returned (.bool (ltU r))∧w' = w:=by
 have HI:=Qh (ltU_iff r);generalize ltU r=b at *;have fin:∀ v:Bool,(v=true↔(97≤r∧r≤122)∨(65≤r∧r≤90)∨r=95)→b=v:=fun v hv=>by rw[Bool.eq_iff_iff,HI.out,hv]
 by_cases h1:(97:Int)≤r
 ·by_cases h2:(r:Int)≤122
  ·have HB:=Qh (fin true (by simp;omega));clear HI fin;go_enter func112,ntmps112
   go_wp2_with fail;go_ret;exact⟨by rw[HB.out]<;>rfl,rfl⟩
  ·have HB:=Qh (fin false (by simp;omega));have h3:(65:Int)≤r:=(by omega);have h4:¬ (r:Int)≤90:=(by omega);have h5:((r:Int) == 95)=false:=(by rw[beq_eq_false_iff_ne];omega);clear HI fin;go_enter func112,ntmps112
   go_wp2_with fail;go_ret;exact⟨by rw[HB.out]<;>rfl,rfl⟩
 ·by_cases h3:(65:Int)≤r
  ·by_cases h4:(r:Int)≤90
   ·have HB:=Qh (fin true (by simp;omega));clear HI fin;go_enter func112,ntmps112
    go_wp2_with fail;go_ret;exact⟨by rw[HB.out]<;>rfl,rfl⟩
   ·by_cases h6:r=95
    ·have HB:=Qh (fin true (by simp;omega));have h5:((r:Int) == 95)=true:=(by rw[h6];rfl);clear HI fin h6;go_enter func112,ntmps112
     go_wp2_with fail;go_ret;exact⟨by rw[HB.out]<;>rfl,rfl⟩
    ·have HB:=Qh (fin false (by simp;omega));have h5:((r:Int) == 95)=false:=(by rw[beq_eq_false_iff_ne];omega);clear HI fin h6;go_enter func112,ntmps112
     go_wp2_with fail;go_ret;exact⟨by rw[HB.out]<;>rfl,rfl⟩
  ·have HB:=Qh (fin false (by simp;omega));have h5:((r:Int) == 95)=false:=(by rw[beq_eq_false_iff_ne];omega);clear HI fin;go_enter func112,ntmps112
   go_wp2_with fail;go_ret;exact⟨by rw[HB.out]<;>rfl,rfl⟩
def okN (k:Nat) (c:UInt8):Bool:=ltU c.toNat || (k != 0 && dgU c.toNat)
def allN:Nat→List UInt8→Bool
 | _,[]=>true
 | k,c::t=>okN k c && allN (k+1) t
def nameB (s:List UInt8):Bool:=allN 0 s && (decide (0 < s.length) && decide (s.length≤64))
set_option maxRecDepth 100000 in theorem cname_any (s : List UInt8) (hs : s.length ≤ 9223372036854775807) (w : World) :
  Calls prog 84 #[.string ⟨s.toArray⟩] w fun e w'=>e=.returned (.bool (nameB s))∧Below w.heap.size w w':=by
 obtain⟨T,hT⟩:∃ T,T=nameB s:=⟨_,rfl⟩
 rw[← hT];have hb0:Below w.heap.size w (w.iter ⟨s.toArray⟩ 0):=(Below.refl _ _).alloc lrf _;have hi0:=World.iter_heap w ⟨s.toArray⟩ 0;obtain⟨Z,hZ⟩:∃ Z,Z=(decide (0 < s.length) && decide (s.length≤64)):=⟨_,rfl⟩
 have HT:=Qh (show T=(allN 0 s && Z)by rw[hT,hZ];rfl);have HZ:=Qh hZ;clear hT hZ;go_enter func84,ntmps84
 go_wp2_with fail;generalize w.iter ⟨s.toArray⟩ 0=V at *;go_loopw [] (fun wr=>∃ k:Nat,k≤s.length∧T=(allN k (s.drop k) && Z)∧wr.heap[w.heap.size]? = some (.stringIter ⟨s.toArray⟩ k)∧Below w.heap.size w wr) (fun wr=>s.length - wr.iterPos w.heap.size)
 case atStart=>exact⟨0,Nat.zero_le _,by rw[HT.out];simp,hi0,hb0⟩
 case round=>
  clear hi0 hb0 HT;obtain⟨k,hk,hTk,hit,hbw⟩:=hrel;have hmz:wr.iterPos w.heap.size=k:=iterPos_of hit;by_cases hlt:k < s.length
  ·have hps:k < (⟨s.toArray⟩:ByteArray).size:=hlt;have hnx:∀ ty,(Instr.next (.pointer (some ⟨w.heap.size,0,none⟩)) true ty).run prog wr=_:=fun ty=>Lib.run_next_any_at wr w.heap.size ⟨s.toArray⟩ k ty hit hps
   rw[dec_drop]at hnx;have hd:=List.drop_eq_getElem_cons hlt;rw[hd]at hTk hnx;generalize s[k]=c at *;have hT2:T=(okN k c && allN (k+1) (s.drop (k+1)) && Z):=hTk;have hlow:(ltU (decL (c::s.drop (k+1))).1 || dgU (decL (c::s.drop (k+1))).1)=true→decL (c::s.drop (k+1))=(c.toNat,1):=fun h=>by
    rw[Bool.or_eq_true]at h;exact(dec_low c _ (h.elim (fun h=>ltU_low h) (fun h=>dgU_low h))).1
   have hhi:(ltU (decL (c::s.drop (k+1))).1 || dgU (decL (c::s.drop (k+1))).1)=false→(ltU c.toNat || dgU c.toNat)=false:=fun h=>by
    rw[Bool.eq_false_iff];intro h2;have h3:c.toNat < 128:=by
     rw[Bool.or_eq_true]at h2;exact h2.elim (fun h=>ltU_low h) (fun h=>dgU_low h)
    rw[dec_ascii c _ h3]at h;rw[h]at h2;cases h2
   have hbw2:=fun n=>Lib.below_iterAt hbw (k:=w.heap.size) lrf ⟨s.toArray⟩ (k+n)
   have cl:=cletter_any (decL (c::s.drop (k+1))).1;cases h1:ltU (decL (c::s.drop (k+1))).1
   ·cases h2:dgU (decL (c::s.drop (k+1))).1
    ·have h3:=hhi (by rw[h1,h2];rfl);rw[Bool.or_eq_false_iff]at h3;have HTK:=Qh (show T=false by rw[hT2];unfold okN;rw[h3.1,h3.2];simp);rw[h1]at cl;have hnd:=fun h=>(dgU_iff (decL (c::s.drop (k+1))).1).2 h
     rw[h2]at hnd;generalize (decL (c::s.drop (k+1))).1=R at *;generalize (decL (c::s.drop (k+1))).2=N at *;have HBW:=Qh (hbw2 N);generalize wr.iterAt w.heap.size ⟨s.toArray⟩ (k+N)=wv at *;have hnd2:¬ (48≤R∧R≤57):=fun h=>by cases hnd h
     clear hnd hlow hhi h1 h2 h3 hT2 hTk hd hmz hps hbw2;by_cases h0:k=0
     ·subst h0;clear hnd2;go_wp2_with fail;with_reducible refine(cl _).mono ?_
      rintro e w1 ⟨rfl,rfl⟩;go_wp2_with fail;go_ret;exact⟨by rw[HTK.out]<;>rfl,HBW.out⟩
     ·have hk0:((k:Int) == 0)=false:=(by rw[beq_eq_false_iff_ne];omega);by_cases h4:(R:Int) < 48
      ·clear hnd2 h0;go_wp2_with fail;with_reducible refine(cl _).mono ?_
       rintro e w1 ⟨rfl,rfl⟩;go_wp2_with fail;go_ret;exact⟨by rw[HTK.out]<;>rfl,HBW.out⟩
      ·have h5:(57:Int) < R:=(by omega);clear hnd2 h0;go_wp2_with fail;with_reducible refine(cl _).mono ?_
       rintro e w1 ⟨rfl,rfl⟩;go_wp2_with fail;go_ret;exact⟨by rw[HTK.out]<;>rfl,HBW.out⟩
    ·have hde:=hlow (by rw[h1,h2];rfl);rw[hde]at hnx h1 h2 cl;rw[h1]at cl;have hdg:=(dgU_iff c.toNat).1 h2;have hlc:ltU c.toNat=false:=h1;have hdc:dgU c.toNat=true:=h2;have hit2:=Lib.iterAt_heap wr w.heap.size ⟨s.toArray⟩ k (k+1) hit;have HBW:=Qh (hbw2 1);simp only at hnx;generalize wr.iterAt w.heap.size ⟨s.toArray⟩ (k+1)=wv at *;have HM:=Qh hmz;by_cases h0:k=0
     ·have HTK:=Qh (show T=false by rw[hT2,h0];unfold okN;rw[hlc,hdc];rfl);subst h0;clear hlow hhi h1 h2 hT2 hTk hd hmz hps hbw2 hdg hlc hdc hde;go_wp2_with fail;with_reducible refine(cl _).mono ?_
      rintro e w1 ⟨rfl,rfl⟩;go_wp2_with fail;go_ret;exact⟨by rw[HTK.out]<;>rfl,HBW.out⟩
     ·have HTK:=Qh (show T=(allN (k+1) (s.drop (k+1)) && Z)by
       rw[hT2];have:okN k c=true:=by unfold okN;rw[hlc,hdc];simp[h0]
       rw[this,Bool.true_and])
      have hk0:((k:Int) == 0)=false:=(by rw[beq_eq_false_iff_ne];omega);have h4:¬ ((c.toNat:Int) < 48):=(by omega);have h5:¬ ((57:Int) < c.toNat):=(by omega);clear hlow hhi h1 h2 hT2 hTk hd hmz hps hbw2 hdg hlc hdc hde h0;go_wp2_with fail;with_reducible refine(cl _).mono ?_
      rintro e w1 ⟨rfl,rfl⟩;go_wp2_with fail;go_roundw;case rel=>exact⟨k+1,by omega,HTK.out,hit2,HBW.out⟩
      case measure=>rw[iterPos_of hit2,HM.out];omega
   ·have hde:=hlow (by rw[h1];rfl);rw[hde]at hnx h1 cl;rw[h1]at cl;have hlc:ltU c.toNat=true:=h1;have hit2:=Lib.iterAt_heap wr w.heap.size ⟨s.toArray⟩ k (k+1) hit;have HBW:=Qh (hbw2 1);simp only at hnx;generalize wr.iterAt w.heap.size ⟨s.toArray⟩ (k+1)=wv at *;have HM:=Qh hmz;have HTK:=Qh (show T=(allN (k+1) (s.drop (k+1)) && Z)by
     rw[hT2];have:okN k c=true:=by unfold okN;rw[hlc];rfl
     rw[this,Bool.true_and])
    clear hlow hhi h1 hT2 hTk hd hmz hps hbw2 hlc hde;go_wp2_with fail;with_reducible refine(cl _).mono ?_
    rintro e w1 ⟨rfl,rfl⟩;go_wp2_with fail;go_roundw;case rel=>exact⟨k+1,by omega,HTK.out,hit2,HBW.out⟩
    case measure=>rw[iterPos_of hit2,HM.out];omega
  ·have HTK:=Qh (show T=Z by rw[hTk,show k=s.length by omega,List.drop_length];rfl);have hps:¬ k < (⟨s.toArray⟩:ByteArray).size:=hlt;have hnx:∀ ty,(Instr.next (.pointer (some ⟨w.heap.size,0,none⟩)) true ty).run prog wr=_:=fun ty=>Lib.run_next_end_at wr w.heap.size ⟨s.toArray⟩ k ty hit hps
   have HBW:=Qh hbw;clear hTk hps hmz hbw hit;by_cases h0:s=[]
   ·have hT0:=Qh (show T=false by rw[HTK.out,HZ.out,h0];rfl);subst h0;go_wp2_with fail;go_ret;exact⟨by rw[hT0.out]<;>rfl,HBW.out⟩
   ·have hpos:0 < s.length:=List.length_pos_iff.2 h0;have he:s.isEmpty=false:=by cases s with
     | nil=>exact absurd rfl h0
     | cons a b=>rfl
    by_cases h64:(s.length:Int)≤64
    ·have hT0:=Qh (show T=true by rw[HTK.out,HZ.out,decide_eq_true hpos,decide_eq_true (by omega)];rfl);clear h0 hpos;go_wp2_with fail;go_ret;exact⟨by rw[hT0.out]<;>rfl,HBW.out⟩
    ·have hT0:=Qh (show T=false by rw[HTK.out,HZ.out,decide_eq_false (by omega:¬ s.length≤64),Bool.and_false]);clear h0 hpos;go_wp2_with fail;go_ret;exact⟨by rw[hT0.out]<;>rfl,HBW.out⟩
def sizB (n:Int):Bool:=decide (0≤n∧n < 2147483648)
theorem small_any (n:Int) (hn:-9223372036854775808≤n∧n≤9223372036854775807) (w:World) :
  Calls prog 86 #[.int .i64 n] w fun e w'=>e=.returned (.bool (sizB n))∧w' = w:=by
 by_cases h1:0≤n
 ·by_cases h2:n < 2147483648
  ·have HD:=Qh (show sizB n=true from decide_eq_true ⟨h1,h2⟩);go_enter func86,ntmps86
   go_wp2_with fail;go_ret;exact⟨by rw[HD.out]<;>rfl,rfl⟩
  ·have HD:=Qh (show sizB n=false from decide_eq_false (fun h=>h2 h.2));go_enter func86,ntmps86
   go_wp2_with fail;go_ret;exact⟨by rw[HD.out]<;>rfl,rfl⟩
 ·have HD:=Qh (show sizB n=false from decide_eq_false (fun h=>h1 h.1));go_enter func86,ntmps86
  go_wp2_with fail;go_ret;exact⟨by rw[HD.out]<;>rfl,rfl⟩
def keyL:List (List UInt8):=[[86,69,82,83,73,79,78],[66,85,95],[66,79,95],[83,71,95],[86,65,76,95],[67,77,95]]
def wordB (s:List UInt8):Bool:=nameB s && !decide (s∈keyL)
theorem pword_any (s:List UInt8) (hs:s.length≤9223372036854775807) (w:World) :
  Calls prog 52 #[.string ⟨s.toArray⟩] w fun e w'=>e=.returned (.bool (wordB s))∧Below w.heap.size w w':=by
 have c:=cname_any s hs w;by_cases hk:s∈keyL
 ·have HW:=Qh (show wordB s=false by unfold wordB;rw[decide_eq_true hk];simp);clear c;simp only[keyL,List.mem_cons,List.not_mem_nil,or_false]at hk;rcases hk with rfl|rfl|rfl|rfl|rfl|rfl <;>
  ·go_enter func52,ntmps52
   go_wp2_with fail;go_ret;exact⟨by rw[HW.out]<;>rfl,Below.refl _ _⟩
 ·have HW:=Qh (show wordB s=nameB s by unfold wordB;rw[decide_eq_false hk];simp);have hne:∀ t∈keyL,(s == t)=false:=by
   intro t ht;rw[beq_eq_false_iff_ne];intro e;exact hk (e ▸ ht)
  have h1:=hne [86,69,82,83,73,79,78] (by decide);have h2:=hne [66,85,95] (by decide);have h3:=hne [66,79,95] (by decide);have h4:=hne [83,71,95] (by decide);have h5:=hne [86,65,76,95] (by decide);have h6:=hne [67,77,95] (by decide);clear hne;generalize nameB s=T at *;go_enter func52,ntmps52
  go_wp2_with fail;(with_reducible refine c.mono ?_);rintro e w1 ⟨rfl,hb⟩;go_wp2_with fail;go_ret;exact⟨by rw[HW.out]<;>rfl,hb⟩
structure SigD where
 line:Int
 col:Int
 name:List UInt8
 role:Int
 branch:Nat
 start:Int
 size:Int
 moto:Bool
 signed:Bool
 sn:Int
 sd:Int
 on:Int
 od:Int
 mn:Int
 md:Int
 xn:Int
 xd:Int
 unit:List UInt8
def SigD.agg (d:SigD) (tv:Value):Value:=.agg #[.int .i64 d.line,.int .i64 d.col,.string ⟨d.name.toArray⟩,.int .i64 d.role,.int .u64 (d.branch:Nat),.int .i64 d.start,.int .i64 d.size,.bool d.moto,.bool d.signed,.int .i64 d.sn,.int .i64 d.sd,.int .i64 d.on,.int .i64 d.od,.int .i64 d.mn,.int .i64 d.md,.int .i64 d.xn,.int .i64 d.xd,.string ⟨d.unit.toArray⟩,tv]
def ordL (m s:Bool):List UInt8:=[64,if m then 48 else 49,if s then 45 else 43]
def rolL (r:Int) (b:Nat):List UInt8:=if r=1 then [32,77] else if r=2 then 32::109::Lib.decDigits b else []
theorem cell_oth {W:World} {b o o':Nat} {v x:Value} (h:o≠o') (e:W.cell? ⟨b,o',none⟩=some x):(W.setCell ⟨b,o,none⟩ v).cell? ⟨b,o',none⟩=some x:=by
 rw[World.cell?_setCell_other]
 ·exact e
 ·intro g;exact h (by cases g;rfl)
theorem cell_own {W:World} {a:Addr} {v u:Value} (e:W.cell? a=some u):(W.setCell a v).cell? a=some v:=by
 first|exact World.cell?_setCell_same e|exact World.cell?_setCell_same _ _ _ e|exact World.cell?_setCell_same _ _ _ _ e|exact World.cell?_setCell_same _ _ e|exact World.cell?_setCell_same _ e|(have:=World.cell?_setCell_same (h:=e);exact this ..)
theorem frozen_two (w:World) (x:Obj) (C:Array Value) (t:TypeId) (fr:Nat×Nat) (j:Nat) (h:(decide (fr.1≤j) && decide (j < fr.2))=false):((w.alloc x).alloc (.cells C t fr)).frozen? ⟨w.heap.size+1,j,none⟩=false:=by
 have e:((w.alloc x).alloc (.cells C t fr)).heap[w.heap.size+1]? = some (.cells C t fr):=by
  show((w.alloc x).heap.push (.cells C t fr))[w.heap.size+1]? = _;rw[show w.heap.size+1=(w.alloc x).heap.size by simp];exact Array.getElem?_push_size
 unfold World.frozen?;simp only;rw[e];exact h
set_option maxRecDepth 100000 in theorem order_any (d : SigD) (tv : Value) (w : World) :
  Calls prog 117 #[d.agg tv] w fun e w'=>e=.returned (.string ⟨(ordL d.moto d.signed).toArray⟩)∧Below w.heap.size w w':=by
 obtain⟨v0,v1,v2,v3,v4,v5,v6,m,s,v9,v10,v11,v12,v13,v14,v15,v16,v17⟩:=d;unfold SigD.agg;simp only;have HB:=Qh (fun o=>(Below.refl w.heap.size w).alloc lrf o);obtain⟨C,hC⟩:∃ C:Array Value,C=#[.int .i64 v0,.int .i64 v1,.string ⟨v2.toArray⟩,.int .i64 v3,.int .u64 (v4:Nat),.int .i64 v5,.int .i64 v6,.bool m,.bool s,.int .i64 v9,.int .i64 v10,.int .i64 v11,.int .i64 v12,.int .i64 v13,.int .i64 v14,.int .i64 v15,.int .i64 v16,.string ⟨v17.toArray⟩,tv]:=⟨_,rfl⟩
 have hc1:=Go.Joins.run_convert_bytes_const_at (P:=prog) (w.alloc (.cells C 89)) 172 5 #[.int .u8 64,.int .u8 49,.int .u8 43] 3 3 (w.heap.size+1) (by simp) underlying172 underlying5;rw[hC]at hc1;have hc2:∀ (x y:UInt8) (W:World),W.cell? ⟨w.heap.size+1,0,none⟩=some (.int .u8 64)→W.cell? ⟨w.heap.size+1,1,none⟩=some (.int .u8 (x.toNat:Int))→W.cell? ⟨w.heap.size+1,2,none⟩=some (.int .u8 (y.toNat:Int))→(convert 172 9 (.slice (some ⟨w.heap.size+1,0,none⟩) 3 3)).run prog W=.ok (.string ⟨#[64,x,y]⟩) W:=fun x y W a0 a1 a2=>
  run_convert_bytes_back W 172 9 5 ⟨w.heap.size+1,0,none⟩ 3 [64,x,y] underlying172 underlying5 underlying9 fun j hj=>by
   rw[Addr.add_lit]
   match j,hj with
   | 0,_=>exact a0
   | 1,_=>exact a1
   | 2,_=>exact a2
 have HC2:=Qh hc2;clear hc2;have HB2:Below w.heap.size w ((w.alloc (.cells C 89)).alloc (.cells #[.int .u8 64,.int .u8 49,.int .u8 43] 5 (3,4))):=((Below.refl w.heap.size w).alloc lrf _).alloc (by simp) _;have e0:∀ j,((w.alloc (.cells C 89)).alloc (.cells #[.int .u8 64,.int .u8 49,.int .u8 43] 5 (3,4))).cell? ⟨w.heap.size+1,j,none⟩=(#[.int .u8 64,.int .u8 49,.int .u8 43]:Array Value)[j]?:=fun j=>Go.Joins.cell_alloc_mark_at _ _ _ _ _ _ (by simp)
 have e1:∀ j,((w.alloc (.cells C 89)).alloc (.cells #[.int .u8 64,.int .u8 49,.int .u8 43] 5 (3,4))).cell? ⟨w.heap.size,j,none⟩=C[j]?:=fun j=>by
  rw[World.cell?_alloc_old _ _ _ (by simp)];exact Go.Joins.cell_alloc_mark_at _ _ _ _ _ _ rfl
 have f1:((w.alloc (.cells C 89)).alloc (.cells #[.int .u8 64,.int .u8 49,.int .u8 43] 5 (3,4))).frozen? ⟨w.heap.size+1,1,none⟩=false:=frozen_two _ _ _ _ _ _ (by decide);have f2:((w.alloc (.cells C 89)).alloc (.cells #[.int .u8 64,.int .u8 49,.int .u8 43] 5 (3,4))).frozen? ⟨w.heap.size+1,2,none⟩=false:=frozen_two _ _ _ _ _ _ (by decide);have hm:=e1 7;have hs:=e1 8;have h0:=e0 0;have h1:=e0 1;have h2:=e0 2;have hz:((w.alloc (.cells C 89)).alloc (.cells #[.int .u8 64,.int .u8 49,.int .u8 43] 5 (3,4))).heap.size=w.heap.size+2:=(by simp);rw[← hC]at hc1;simp only[List.size_toArray,List.length_cons,List.length_nil,Nat.reduceAdd]at hc1;generalize (w.alloc (.cells C 89)).alloc (.cells #[.int .u8 64,.int .u8 49,.int .u8 43] 5 (3,4))=W2 at *;rw[hC]at hc1 hm hs;clear e0 e1 hC;simp at hm hs h0 h1 h2;cases m
 ·cases s
  ·have hcv:=HC2.out 49 43 W2 h0 h1 h2;go_enter func117,ntmps117
   go_wp2_with fail;go_ret;exact⟨rfl,HB2⟩
  ·have hcv:=HC2.out 49 45 (W2.setCell ⟨w.heap.size+1,2,none⟩ (.int .u8 45)) (cell_oth (by decide) h0) (cell_oth (by decide) h1) (cell_own h2);go_enter func117,ntmps117
   go_wp2_with fail;go_ret;exact⟨rfl,HB2.setCell (by simp) _⟩
 ·cases s
  ·have hcv:=HC2.out 48 43 (W2.setCell ⟨w.heap.size+1,1,none⟩ (.int .u8 48)) (cell_oth (by decide) h0) (cell_own h1) (cell_oth (by decide) h2);go_enter func117,ntmps117
   go_wp2_with fail;go_ret;exact⟨rfl,HB2.setCell (by simp) _⟩
  ·have hcv:=HC2.out 48 45 ((W2.setCell ⟨w.heap.size+1,1,none⟩ (.int .u8 48)).setCell ⟨w.heap.size+1,2,none⟩ (.int .u8 45)) (cell_oth (by decide) (cell_oth (by decide) h0)) (cell_oth (by decide) (cell_own h1)) (cell_own (cell_oth (by decide) h2));go_enter func117,ntmps117
   go_wp2_with fail;go_ret;exact⟨rfl,(HB2.setCell (by simp) _).setCell (by simp) _⟩
end Go.Proofs.YtkblpaabknjckaaGreatDoor
