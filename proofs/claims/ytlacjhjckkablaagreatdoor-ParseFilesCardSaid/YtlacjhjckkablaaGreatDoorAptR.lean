/-
  Contract of busbarkit.ApartRows (the text ApartRule turned to rows).
-/
import Derived.Test.YtlacjhjckkablaaGreatDoorBaseD
import Derived.Test.YtlacjhjckkablaaGreatDoorNotA
import Derived.Test.YtlacjhjckkablaaGreatDoorShelfV
import Derived.BigQuiet
import Derived.Test.YtlacjhjckkablaaGreatDoorBaseC
import Derived.Test.YtlacjhjckkablaaGreatDoorRedK
set_option maxHeartbeats 128000000
set_option linter.unusedVariables false
namespace Go.Proofs.YtlacjhjckkablaaGreatDoor
open Go.Proofs.Tryz
open Go.RowKit
abbrev SlT (w:World) (a:Option Addr) (cap:Nat) (l:List (List UInt8)):Prop:=SlOf w enTx 1 a cap l
theorem SlT.at {w:World} {a:Option Addr} {cap:Nat} {l:List (List UInt8)} (h:SlT w a cap l) {k:Nat} (hk:k < l.length):∃ b o,a=some ⟨b,o,none⟩∧b < w.heap.size∧w.cell? ⟨b,o+k,none⟩=some (.string ⟨l[k].toArray⟩):=
 SlOf.cell1 h (fun x:List UInt8=>.string ⟨x.toArray⟩) (fun _=>rfl) hk
def mkText (k i:Nat):List UInt8:=[35,UInt8.ofNat k,UInt8.ofNat (k / 256),UInt8.ofNat i,UInt8.ofNat (i / 256)]
theorem enTxL_len (l:List UInt8):(enTx l).length=1:=rfl
theorem conv_byte (n:Nat):IntKind.u8.wrap (n:Int)=(((UInt8.ofNat n).toNat:Nat):Int):=by
 unfold IntKind.wrap;simp[IntKind.bits,IntKind.signed]
set_option maxRecDepth 100000 in theorem markText_any (k i : Nat) (hk : k ≤ 1000000) (hi : i ≤ 281474976710656) (w : World) :
  Calls prog 103 #[.int .i64 k,.int .i64 i] w fun e w'=>e=.returned (.string ⟨(mkText k i).toArray⟩)∧Below w.heap.size w w':=by
 have e1:(k:Int) / 256=((k / 256:Nat):Int):=(by omega);have e2:(i:Int) / 256=((i / 256:Nat):Int):=(by omega);have c1:=conv_byte k;have c2:=conv_byte (k / 256);have c3:=conv_byte i;have c4:=conv_byte (i / 256);unfold mkText at *;generalize k / 256=k2 at *;generalize i / 256=i2 at *;generalize UInt8.ofNat k=b1 at *;generalize UInt8.ofNat k2=b2 at *;generalize UInt8.ofNat i=b3 at *;generalize UInt8.ofNat i2=b4 at *;have hs:=SlOf.lit w enByte 1 (fun _=>rfl) [35,b1,b2,b3,b4] #[.int .u8 35,.int .u8 b1.toNat,.int .u8 b2.toNat,.int .u8 b3.toNat,.int .u8 b4.toNat] 5 5 rfl rfl (by decide);have hconv:(convert 187 9 (.slice (some ⟨w.heap.size,0,none⟩) 5 5)).run prog (w.alloc (.cells #[.int .u8 35,.int .u8 b1.toNat,.int .u8 b2.toNat,.int .u8 b3.toNat,.int .u8 b4.toNat] 5))=.ok (.string ⟨#[35,b1,b2,b3,b4]⟩) (w.alloc (.cells #[.int .u8 35,.int .u8 b1.toNat,.int .u8 b2.toNat,.int .u8 b3.toNat,.int .u8 b4.toNat] 5)):=
  run_convert_bytes_back _ 187 9 5 ⟨w.heap.size,0,none⟩ 5 [35,b1,b2,b3,b4] underlying187 underlying5 underlying9 fun j hj=>by
   obtain⟨b,o,e1,_,hc⟩:=SlOf.cell1 hs (fun x:UInt8=>.int .u8 (x.toNat:Int)) (fun _=>rfl) hj;cases e1
   rw[Addr.add_lit];exact hc
 have HB:=Qh ((Below.refl w.heap.size w).alloc lrf (.cells #[.int .u8 35,.int .u8 b1.toNat,.int .u8 b2.toNat,.int .u8 b3.toNat,.int .u8 b4.toNat] 5));clear hs;go_enter func103,ntmps103
 go_wp2_with fail;go_ret;exact⟨rfl,HB.out⟩
set_option maxRecDepth 100000 in theorem markTexts_any (k i : Nat) (hk : k ≤ 1000000) (hi : i ≤ 281474976710656) (w : World) :
  Calls prog 95 #[.int .i64 k,.int .i64 i] w fun e w'=>e=.returned (.string ⟨(mkText k i).toArray⟩)∧Below w.heap.size w w':=by
 have c:=markText_any k i hk hi;generalize mkText k i=mt at *;go_enter func95,ntmps95
 go_wp2_with fail;with_reducible refine(c _).mono ?_
 rintro e w1 ⟨rfl,hb⟩;go_wp2_with fail;go_ret;exact⟨rfl,hb⟩
theorem textss_ty:SlTy prog 45 31 1 24:=SlTy.mk' (.slice none 0 0) underlying45 (by kernel_rfl) rfl (by decide) (by decide)
set_option maxRecDepth 100000 in theorem apartTexts_any (base m : Nat) (vs : Nat → Value) (xs : Nat → List (List UInt8)) (al : Option Addr) (cl : Nat) (w : World) (hm : m ≤ 100000) (hB : base ≤ w.heap.size)
  (ho:∀ j,j < m→Owns w base 9 1 enTx (vs j) (xs j)) (hap:∀ i j,i < m→j < m→i≠j→Apart (vs i) (vs j))
  (hls:Owns w base 31 1 enV (.slice al m cl) ((List.range m).map vs)) (hr:∀ j,j < m→((xs j).length+64)*16≤140737488355328) :
  Calls prog 42 #[.slice al m cl] w fun e w'=>e=.returned (.bool true)∧Below base w w'∧Kin 9 31 w w':=by
 have hne:9≠31:=(by decide);obtain⟨n,hn⟩:∃ n:Nat→Nat,∀ j,n j=(xs j).length:=⟨fun j=>(xs j).length,fun _=>rfl⟩
 have ha0:ApA enTx 1 9 31 base m vs (.slice al m cl) w xs w:=⟨Below.refl _ _,ho,hls,Kin.refl _ _ _⟩
 have hp0:Ph1 m mkText n 0 0 xs:=Ph1.start fun j _=>(hn j).symm
 have hr':∀ j,j < m→(n j+64)*16≤140737488355328:=fun j hj=>by rw[hn];exact hr j hj
 clear ho hls hr hn;go_enter func42,ntmps42
 go_wp2_with fail;go_loopw [3] (fun v wr=>∃ k X,k≤m∧v=.int .i64 (k:Nat)∧ApA enTx 1 9 31 base m vs (.slice al m cl) w X wr∧Ph1 m mkText n k 0 X) (fun v _=>m - (intOf v).toNat)
 case atStart=>exact⟨0,xs,Nat.zero_le _,rfl,ha0,hp0⟩
 case round=>
  clear ha0 hp0;obtain⟨k,X,hk,rfl,ha,hp⟩:=hrel;by_cases hlt:k < m
  ·go_wp2_with fail;obtain⟨bl,ol,rfl,hbl0,hcl0⟩:=SlOf.cell1 ha.ls.sl.2 id (fun _=>rfl) (k:=k) (by simpa using hlt);go_loopw [4] (fun v wr=>∃ i X,i≤n k∧v=.int .i64 (i:Nat)∧ApA enTx 1 9 31 base m vs (.slice (some ⟨bl,ol,none⟩) m cl) w X wr∧Ph1 m mkText n k i X) (fun v _=>n k - (intOf v).toNat)
   case atStart=>exact⟨0,X,Nat.zero_le _,rfl,ha,hp⟩
   case round=>
    clear ha hp hcl0 hbl0 X;obtain⟨i,X,hi,rfl,ha,hp⟩:=hrel;obtain⟨bl',ol',hbo,hbl,hcl⟩:=SlOf.cell1 ha.ls.sl.2 id (fun _=>rfl) (k:=k) (by simpa using hlt);cases hbo
    rw[range_map_get]at hcl;simp only[id]at hcl;obtain⟨av,cv,hv,hsv⟩:=(ha.own k hlt).shape;rw[hp.len k hlt]at hv;have hln:=hsv.len;rw[hp.len k hlt]at hln;rw[hv]at hcl;by_cases hil:i < n k
    ·obtain⟨g,cv',hv',hbg,hgs,_,_⟩:=(ha.own k hlt).block (by rw[hp.len k hlt];omega);rw[hp.len k hlt]at hv';rw[hv]at hv';cases hv'
     have hst:∀ (W:World),(ApA enTx 1 9 31 base m vs (.slice (some ⟨bl,ol,none⟩) m cl) w X W∨ApA enTx 1 9 31 base m vs (.slice (some ⟨bl,ol,none⟩) m cl) w (fun j=>if j=k then (X k).set i (mkText k i) else X j) W)→ApA enTx 1 9 31 base m vs (.slice (some ⟨bl,ol,none⟩) m cl) w (fun j=>if j=k then (X k).set i (mkText k i) else X j) (setRow W g (i*1) (enTx (mkText k i))):=by
      intro W hW;rcases hW with h|h
      ·exact h.store hap hne enTxL_len hlt hv (by rw[hp.len k hlt];exact hil) _
      ·have:=h.store hap hne enTxL_len hlt hv (i:=i) (by simp only[if_true];rw[List.length_set,hp.len k hlt];exact hil) (mkText k i);rw[Ph1.again]at this;exact this
     have hpn:=hp.next hlt hil;obtain⟨X',hX'⟩:∃ X',X' = (fun j=>if j=k then (X k).set i (mkText k i) else X j):=⟨_,rfl⟩
     rw[← hX']at hst hpn;have hroom:∀ W,(ApA enTx 1 9 31 base m vs (.slice (some ⟨bl,ol,none⟩) m cl) w X W∨ApA enTx 1 9 31 base m vs (.slice (some ⟨bl,ol,none⟩) m cl) w X' W)→∃ u,W.cell? ⟨g,i,none⟩=some u:=fun W hW=>by
      rcases hW with h|h
      ·simpa using h.room enTxL_len hlt hv (by rw[hp.len k hlt];exact hil) (j:=0) (by decide)
      ·simpa using h.room enTxL_len hlt hv (by rw[hpn.len k hlt];exact hil) (j:=0) (by decide)
     have hfr:∀ j,wr.frozen? ⟨g,j,none⟩=false:=(by have:=ha.own k hlt;rw[hv]at this;exact this.free);go_wp2_with fail;refine wp_region_held_drew (S:=(fun (w':World)=>Below base w w'∧w'.cell? ⟨bl,ol+k,none⟩=some (.slice (some ⟨g,0,none⟩) (n k) cv)∧w'.heap.size≥wr.heap.size∧(∀ j,w'.frozen? ⟨g,j,none⟩=false)∧(ApA enTx 1 9 31 base m vs (.slice (some ⟨bl,ol,none⟩) m cl) w X w'∨ApA enTx 1 9 31 base m vs (.slice (some ⟨bl,ol,none⟩) m cl) w X' w'))) (by kernel_rfl) ⟨ha.bel.drew,hcl,lrf,hfr,.inl ha.drew⟩ (fun hHeld=>?_);refine hT 0 ?_;try simp only[spt]
     refine hT 1 ?_;try simp only[spt]
     refine hT 2 ?_;try simp only[spt]
     refine hT 3 ?_;try simp only[spt]
     refine hT 4 ?_;try simp only[spt]
     refine hT 5 ?_;try simp only[spt]
     refine hT 6 ?_;try simp only[spt]
     refine held_call 7 rfl (by kernel_rfl) (fun K hK=>?_);go_simp;with_reducible refine(markTexts_any k i (by omega) (by have:=hr' k hlt;omega) _).mono ?_
     rintro e w' ⟨rfl,hb'⟩;refine hK.out _ _ ?_ (fun hHeld=>?_)
     ·exact⟨bstep hHeld.1 hb' hB,cell_keep' hHeld.2.1 hb',Nat.le_trans hHeld.2.2.1 hb'.size,fun j=>by rw[frozen_keep hb' (show g < _ from Nat.lt_of_lt_of_le hgs hHeld.2.2.1)];exact hHeld.2.2.2.1 j,hHeld.2.2.2.2.imp (fun h=>h.keep hB hb') (fun h=>h.keep hB hb')⟩
     clear hK K;try simp only[spt]
     refine hT 8 ?_;try simp only[spt]
     refine held_call 9 rfl (by kernel_rfl) (fun K hK=>?_);obtain⟨u0,hu0⟩:∃ u,World.cell? _ ⟨g,i,none⟩=some u:=hroom _ hHeld.2.2.2.2;have hf0:=hHeld.2.2.2.1 i;go_simp;have hnew:=hst _ hHeld.2.2.2.2;rw[Nat.mul_one]at hnew;change ApA _ _ _ _ _ _ _ _ _ _ (World.setCell _ ⟨g,i,none⟩ _)at hnew;refine hK.out _ _ ?_ (fun hHeld2=>?_)
     ·refine⟨hnew.bel,by rw[← hv];exact hnew.lsCell hlt,Nat.le_trans hHeld.2.2.1 (by simp[World.setCell]),?_,.inr hnew⟩;have:=hnew.own k hlt;rw[hv]at this;exact this.free
     clear hK K hHeld hHeld2 hst hroom hu0 hf0;refine wpAnyH_done (by kernel_rfl) ?_ _;go_wp2_with fail;go_roundw;case rel=>exact⟨i+1,X',by omega,by go_num,hnew,hpn⟩
     case measure=>simp[intOf];omega
    ·obtain rfl:i=n k:=by omega
     have hp2:=hp.row hlt;go_wp2_with fail;go_roundw;case rel=>exact⟨k+1,X,by omega,by go_num,ha,hp2⟩
     case measure=>simp[intOf];omega
  ·have hkm:Hid (k=m):=Qh (by omega);have hb0:=ApB.start ha (hkm.out ▸ hp) vs;clear ha hp;obtain⟨kq,hkq⟩:∃ x,x=k:=⟨_,rfl⟩
   subst hkq;go_wp2_with fail;go_loopw [5,6] (fun gsv v wr=>∃ k G,k≤m∧v=.int .i64 (k:Nat)∧ApB enTx 1 9 31 base m vs (.slice al m cl) w mkText n k G gsv wr) (fun _ v _=>m - (intOf v).toNat)
   case atStart=>exact⟨0,vs,Nat.zero_le _,rfl,hb0⟩
   case round=>
    clear hb0 hkm hlt hk X;obtain⟨k,G,hk,rfl,hb⟩:=hrel;have hshg:=hb.gs.shape;rw[List.length_map,List.length_range]at hshg;obtain⟨ag,cg,rfl,hsg⟩:=hshg;by_cases hlt:k < m
    ·have hc0:=hb.enter hap hlt;obtain⟨bl,ol,rfl,hbl0,hcl0⟩:=SlOf.cell1 hb.a.ls.sl.2 id (fun _=>rfl) (k:=k) (by simpa using hlt);have hcl:=hb.a.lsCell hlt;clear hb hbl0 hcl0;go_wp2_with fail;go_loopw [7,8] (fun gv v wr=>∃ i:Nat,i≤64∧v=.int .i64 (i:Nat)∧ApC enTx 1 9 31 base m vs (.slice (some ⟨bl,ol,none⟩) m cl) w mkText n k G (.slice ag k cg) gv i wr) (fun _ v _=>64 - (intOf v).toNat)
     case atStart=>exact⟨0,Nat.zero_le _,rfl,hc0⟩
     case round=>
      clear hc0 hcl;obtain⟨i,hi,rfl,hc⟩:=hrel;have hshc:=hc.cur.shape;rw[marksOf_len]at hshc;obtain⟨ac,cc,rfl,hsc⟩:=hshc;by_cases hil:i < 64
      ·have hcl:=hc.a.lsCell hlt;obtain⟨av,cv,hv,hsv⟩:=(hc.a.own k hlt).shape;rw[marksOf_len]at hv;have hln:=hsv.len;rw[marksOf_len]at hln;rw[hv]at hcl;have hrk:=hr' k hlt;go_wp2_with fail;have hcast:((n k:Int)+(i:Int))=((n k+i:Nat):Int):=(by omega);rw[hcast];clear hcast;refine(markTexts_any k (n k+i) (by omega) (by omega) _).mono ?_;rintro e w1 ⟨rfl,hb1⟩;have hc1:=hc.keep hB hb1;obtain⟨mt,hmt⟩:∃ x,x=mkText k (n k+i):=⟨_,rfl⟩
       rw[← hmt];have HMT:=Qh hmt;have HRK:=Qh hrk;clear hc hcl hv hsv hb1 hsc hln hsg hmt hrk;go_wp2_with (at_builtin;go_loud (refine wpList_append_elem4 txs_ty (marksOf mkText k (n k+i)) mt hc1.cur hc1.a.bel hB (by have:=HRK.out;rw[marksOf_len];omega) ?_ (hone:=by simp[enTx,Value.oneCell'])))
       intro v' w2 ho2 hb2 hg2 hv2 hgrew;rw[HMT.out]at ho2;have hc2:=hc1.step hne enTxL_len hlt ho2 hb2 hg2 hv2 hgrew;clear hc1 ho2 hb2 hg2 hv2 hgrew;go_wp2
       go_roundw;case rel=>exact⟨i+1,by omega,by go_num,hc2⟩
       case measure=>simp[intOf];omega
      ·obtain rfl:i=64:=by omega
       go_wp2_with (at_builtin;go_loud (refine wpList_append_elem3 textss_ty ((List.range k).map G) (.slice ac (n k+64) cc) hc.gs hc.a.bel hB (by simp;omega) ?_ (hone:=by simp[enV,Value.oneCell'])))
       intro v' w2 ho2 hb2 hg2 hv2;have hb3:=hc.leave hne ho2 hb2 hg2 hv2;clear hc ho2 hb2 hg2 hv2 hsc;go_wp2
       go_roundw;case rel=>exact⟨k+1,_,by omega,by go_num,hb3⟩
       case measure=>simp[intOf];omega
    ·have hkm:m=k:=(by omega);subst hkm;clear hsg;go_wp2_with fail;go_loopw [9] (fun v wr=>∃ k:Nat,k≤m∧v=.int .i64 (k:Nat)∧ApB enTx 1 9 31 base m vs (.slice al m cl) w mkText n m G (.slice ag m cg) wr) (fun v _=>m - (intOf v).toNat)
     case atStart=>exact⟨0,Nat.zero_le _,rfl,hb⟩
     case round=>
      clear hb hlt hk;obtain⟨k,hk,rfl,hb⟩:=hrel;by_cases hlt:k < m
      ·go_wp2_with fail;obtain⟨bg,og,rfl,hcg⟩:=hb.gsCell' hlt;obtain⟨bl,ol,rfl,hcl⟩:=hb.a.lsCell' hlt;clear hcg hcl;go_loopw [10] (fun v wr=>∃ i:Nat,i≤n k+64∧v=.int .i64 (i:Nat)∧ApB enTx 1 9 31 base m vs (.slice (some ⟨bl,ol,none⟩) m cl) w mkText n m G (.slice (some ⟨bg,og,none⟩) m cg) wr) (fun v _=>n k+64 - (intOf v).toNat)
       case atStart=>exact⟨0,Nat.zero_le _,rfl,hb⟩
       case round=>
        clear hb;obtain⟨i,hi,rfl,hb⟩:=hrel;obtain⟨ga,gc,hgv,hsg⟩:=(hb.gown k hlt).shape;rw[marksOf_len]at hgv;obtain⟨bg',og',e1,hcg⟩:=hb.gsCell' hlt;cases e1
        rw[hgv]at hcg;have hlg:=hsg.len;rw[marksOf_len]at hlg;by_cases hil:i < n k+64
        ·go_wp2_with fail;refine(markTexts_any k i (by omega) (by have:=hr' k hlt;omega) _).mono ?_;rintro e w1 ⟨rfl,hb1⟩;have hbx:=hb.keep hB hb1;have hcg3:=cell_keep' hcg hb1;have hsg3:=hsg.keep hb1 lrf;clear hb hcg hsg hb1;obtain⟨bq,oq,rfl,hbq,hg0⟩:=SlT.at hsg3 (k:=i) (by rw[marksOf_len];exact hil);rw[marksOf_get]at hg0;obtain⟨bl',ol',e1,hcl⟩:=hbx.a.lsCell' hlt;cases e1
         obtain⟨av,cv,hv,hsv⟩:=(hbx.a.own k hlt).shape;rw[marksOf_len]at hv;rw[hv]at hcl;have hlv:=hsv.len;rw[marksOf_len]at hlv;by_cases hin:(i:Int) < n k
         ·obtain⟨bv,ov,rfl,hbv,hl0⟩:=SlT.at hsv (k:=i) (by rw[marksOf_len];omega);rw[marksOf_get]at hl0;clear hsg3 hsv hgv hv;generalize mkText k i=mt at *;go_wp2_with fail;go_roundw;case rel=>exact⟨i+1,by omega,by go_num,hbx⟩
          case measure=>simp[intOf];omega
         ·have hdec:decide (i < n k)=false:=decide_eq_false (by omega);clear hsg3 hsv hgv hv;generalize mkText k i=mt at *;go_wp2_with fail;go_roundw;case rel=>exact⟨i+1,by omega,by go_num,hbx⟩
          case measure=>simp[intOf];omega
        ·obtain rfl:i=n k+64:=by omega
         go_wp2_with fail;go_roundw;case rel=>exact⟨k+1,by omega,by go_num,hb⟩
         case measure=>simp[intOf];omega
      ·go_wp2_with fail;go_ret;exact⟨rfl,hb.a.bel,hb.a.kin⟩
def mkRow (k i:Nat):Int×List UInt8:=(-7,mkText k i)
theorem markRow_en (k i:Nat):enRw (mkRow k i)=[.int .i64 (-7),.string ⟨(mkText k i).toArray⟩]:=rfl
theorem enRwL_len (x:Int×List UInt8):(enRw x).length=2:=rfl
set_option maxRecDepth 100000 in theorem markRows_any (k i : Nat) (hk : k ≤ 1000000) (hi : i ≤ 281474976710656) (w : World) :
  Calls prog 99 #[.int .i64 k,.int .i64 i] w fun e w'=>e=.returned (.agg #[.int .i64 (-7),.string ⟨(mkText k i).toArray⟩])∧Below w.heap.size w w':=by
 have c:=markText_any k i hk hi;have HB:=Qh ((Below.refl w.heap.size w).alloc lrf (.cells #[.int .i64 0,.string ⟨#[]⟩] 178));have b2:=Blk.new w #[.int .i64 0,.string ⟨#[]⟩] 178;have HK:=Qh b2;generalize mkText k i=mt at *;clear b2;go_enter func99,ntmps99
 go_wp2_with fail;with_reducible refine(c _).mono ?_
 rintro e w1 ⟨rfl,hb⟩;have bk:=HK.out.keep hb lrf;have HB1:=Qh (bstep HB.out hb lrf);obtain⟨r0,r1,f0,f1⟩:=bk.two;have huR:=underlying178;clear hb;go_wp2_with (refine wpList_storeS (cs:=#[.int .i64 (-7),.string ⟨mt.toArray⟩]) bk 178 (.tmp 4) (.tmp 8) row_sizeR rfl (by simp[Value.oneCell']) ?_)
 have hrun:=run_loadS (bk.row #[.int .i64 (-7),.string ⟨mt.toArray⟩]) 178 _ huR rfl row_sizeR;refine⟨rfl,.agg #[.int .i64 (-7),.string ⟨mt.toArray⟩],by simp[results,results99,Act.put,asAddr,hrun],rfl,below_row HB1.out lrf _⟩
theorem bd24 (a i:Nat) (h:(a+64)*24≤140737488355328) (hi:i < 64):(a+i+1)*24≤140737488355328:=Nat.le_trans (Nat.mul_le_mul_right 24 (show a+i+1≤a+64 by omega)) h
theorem rowss_ty:SlTy prog 49 109 1 24:=SlTy.mk' (.slice none 0 0) underlying49 (by kernel_rfl) rfl (by decide) (by decide)
set_option maxRecDepth 100000 in theorem apartRows_any (base m : Nat) (vs : Nat → Value) (xs : Nat → List (Int × List UInt8)) (al : Option Addr) (cl : Nat) (w : World) (hm : m ≤ 1000000) (hB : base ≤ w.heap.size)
  (ho:∀ j,j < m→Owns w base 178 2 enRw (vs j) (xs j)) (hap:∀ i j,i < m→j < m→i≠j→Apart (vs i) (vs j))
  (hls:Owns w base 109 1 enV (.slice al m cl) ((List.range m).map vs)) (hr:∀ j,j < m→((xs j).length+64)*24≤140737488355328) :
  Calls prog 46 #[.slice al m cl] w fun e w'=>e=.returned (.bool true)∧Below base w w'∧Kin 178 109 w w':=by
 have hne:178≠109:=(by decide);obtain⟨n,hn⟩:∃ n:Nat→Nat,∀ j,n j=(xs j).length:=⟨fun j=>(xs j).length,fun _=>rfl⟩
 have ha0:ApA enRw 2 178 109 base m vs (.slice al m cl) w xs w:=⟨Below.refl _ _,ho,hls,Kin.refl _ _ _⟩
 have hp0:Ph1 m mkRow n 0 0 xs:=Ph1.start fun j _=>(hn j).symm
 have hr':∀ j,j < m→(n j+64)*24≤140737488355328:=fun j hj=>by rw[hn];exact hr j hj
 clear ho hls hr hn;go_enter func46,ntmps46
 go_wp2_with fail;go_loopw [3] (fun v wr=>∃ k X,k≤m∧v=.int .i64 (k:Nat)∧ApA enRw 2 178 109 base m vs (.slice al m cl) w X wr∧Ph1 m mkRow n k 0 X) (fun v _=>m - (intOf v).toNat)
 case atStart=>exact⟨0,xs,Nat.zero_le _,rfl,ha0,hp0⟩
 case round=>
  clear ha0 hp0;obtain⟨k,X,hk,rfl,ha,hp⟩:=hrel;by_cases hlt:k < m
  ·go_wp2_with fail;obtain⟨bl,ol,rfl,hbl0,hcl0⟩:=SlOf.cell1 ha.ls.sl.2 id (fun _=>rfl) (k:=k) (by simpa using hlt);go_loopw [4] (fun v wr=>∃ i X,i≤n k∧v=.int .i64 (i:Nat)∧ApA enRw 2 178 109 base m vs (.slice (some ⟨bl,ol,none⟩) m cl) w X wr∧Ph1 m mkRow n k i X) (fun v _=>n k - (intOf v).toNat)
   case atStart=>exact⟨0,X,Nat.zero_le _,rfl,ha,hp⟩
   case round=>
    clear ha hp hcl0 hbl0 X;obtain⟨i,X,hi,rfl,ha,hp⟩:=hrel;obtain⟨bl',ol',hbo,hbl,hcl⟩:=SlOf.cell1 ha.ls.sl.2 id (fun _=>rfl) (k:=k) (by simpa using hlt);cases hbo
    rw[range_map_get]at hcl;simp only[id]at hcl;obtain⟨av,cv,hv,hsv⟩:=(ha.own k hlt).shape;rw[hp.len k hlt]at hv;have hln:=hsv.len;rw[hp.len k hlt]at hln;rw[hv]at hcl;by_cases hil:i < n k
    ·obtain⟨g,cv',hv',hbg,hgs,_,_⟩:=(ha.own k hlt).block (by rw[hp.len k hlt];omega);rw[hp.len k hlt]at hv';rw[hv]at hv';cases hv'
     have hst:∀ (W:World),(ApA enRw 2 178 109 base m vs (.slice (some ⟨bl,ol,none⟩) m cl) w X W∨ApA enRw 2 178 109 base m vs (.slice (some ⟨bl,ol,none⟩) m cl) w (fun j=>if j=k then (X k).set i (mkRow k i) else X j) W)→ApA enRw 2 178 109 base m vs (.slice (some ⟨bl,ol,none⟩) m cl) w (fun j=>if j=k then (X k).set i (mkRow k i) else X j) (setRow W g (i*2) (enRw (mkRow k i))):=by
      intro W hW;rcases hW with h|h
      ·exact h.store hap hne enRwL_len hlt hv (by rw[hp.len k hlt];exact hil) _
      ·have:=h.store hap hne enRwL_len hlt hv (i:=i) (by simp only[if_true];rw[List.length_set,hp.len k hlt];exact hil) (mkRow k i);rw[Ph1.again]at this;exact this
     have hpn:=hp.next hlt hil;obtain⟨X',hX'⟩:∃ X',X' = (fun j=>if j=k then (X k).set i (mkRow k i) else X j):=⟨_,rfl⟩
     rw[← hX']at hst hpn;have hroom:∀ W,(ApA enRw 2 178 109 base m vs (.slice (some ⟨bl,ol,none⟩) m cl) w X W∨ApA enRw 2 178 109 base m vs (.slice (some ⟨bl,ol,none⟩) m cl) w X' W)→∀ j,j < 2→∃ u,W.cell? ⟨g,i*2+j,none⟩=some u:=fun W hW j hj=>by
      rcases hW with h|h
      ·exact h.room enRwL_len hlt hv (by rw[hp.len k hlt];exact hil) hj
      ·exact h.room enRwL_len hlt hv (by rw[hpn.len k hlt];exact hil) hj
     have hfr:∀ j,wr.frozen? ⟨g,j,none⟩=false:=(by have:=ha.own k hlt;rw[hv]at this;exact this.free);go_wp2_with fail;refine wp_region_held_drew (S:=(fun (w':World)=>Below base w w'∧w'.cell? ⟨bl,ol+k,none⟩=some (.slice (some ⟨g,0,none⟩) (n k) cv)∧w'.heap.size≥wr.heap.size∧(∀ j,w'.frozen? ⟨g,j,none⟩=false)∧(ApA enRw 2 178 109 base m vs (.slice (some ⟨bl,ol,none⟩) m cl) w X w'∨ApA enRw 2 178 109 base m vs (.slice (some ⟨bl,ol,none⟩) m cl) w X' w'))) (by kernel_rfl) ⟨ha.bel.drew,hcl,lrf,hfr,.inl ha.drew⟩ (fun hHeld=>?_);refine hT 0 ?_;try simp only[spt]
     refine hT 1 ?_;try simp only[spt]
     refine hT 2 ?_;try simp only[spt]
     refine hT 3 ?_;try simp only[spt]
     refine hT 4 ?_;try simp only[spt]
     refine hT 5 ?_;try simp only[spt]
     refine hT 6 ?_;try simp only[spt]
     refine held_call 7 rfl (by kernel_rfl) (fun K hK=>?_);go_simp;with_reducible refine(markRows_any k i (by omega) (by have:=hr' k hlt;omega) _).mono ?_
     rintro e w' ⟨rfl,hb'⟩;refine hK.out _ _ ?_ (fun hHeld=>?_)
     ·exact⟨bstep hHeld.1 hb' hB,cell_keep' hHeld.2.1 hb',Nat.le_trans hHeld.2.2.1 hb'.size,fun j=>by rw[frozen_keep hb' (show g < _ from Nat.lt_of_lt_of_le hgs hHeld.2.2.1)];exact hHeld.2.2.2.1 j,hHeld.2.2.2.2.imp (fun h=>h.keep hB hb') (fun h=>h.keep hB hb')⟩
     clear hK K;try simp only[spt]
     refine hT 8 ?_;try simp only[spt]
     refine held_call 9 rfl (by kernel_rfl) (fun K hK=>?_);obtain⟨u0,hu0⟩:∃ u,World.cell? _ ⟨g,i*2,none⟩=some u:=hroom _ hHeld.2.2.2.2 0 (by decide);obtain⟨u1,hu1⟩:∃ u,World.cell? _ ⟨g,i*2+1,none⟩=some u:=hroom _ hHeld.2.2.2.2 1 (by decide);have hf0:=hHeld.2.2.2.1 (i*2);have hf1:=hHeld.2.2.2.1 (i*2+1);go_simp;have hnew:=hst _ hHeld.2.2.2.2;rw[show enRw (mkRow k i)=_ from markRow_en k i]at hnew;change ApA _ _ _ _ _ _ _ _ _ _ (World.setCell (World.setCell _ ⟨g,i*2,none⟩ _) ⟨g,i*2+1,none⟩ _)at hnew;refine hK.out _ _ ?_ (fun hHeld2=>?_)
     ·refine⟨hnew.bel,by rw[← hv];exact hnew.lsCell hlt,Nat.le_trans hHeld.2.2.1 (by simp[World.setCell]),?_,.inr hnew⟩;have:=hnew.own k hlt;rw[hv]at this;exact this.free
     clear hK K hHeld hHeld2 hst hroom hu0 hu1 hf0 hf1;refine wpAnyH_done (by kernel_rfl) ?_ _;go_wp2_with fail;go_roundw;case rel=>exact⟨i+1,X',by omega,by go_num,hnew,hpn⟩
     case measure=>simp[intOf];omega
    ·obtain rfl:i=n k:=by omega
     have hp2:=hp.row hlt;go_wp2_with fail;go_roundw;case rel=>exact⟨k+1,X,by omega,by go_num,ha,hp2⟩
     case measure=>simp[intOf];omega
  ·have hkm:Hid (k=m):=Qh (by omega);have hb0:=ApB.start ha (hkm.out ▸ hp) vs;clear ha hp;obtain⟨kq,hkq⟩:∃ x,x=k:=⟨_,rfl⟩
   subst hkq;go_wp2_with fail;go_loopw [5,6] (fun gsv v wr=>∃ k G,k≤m∧v=.int .i64 (k:Nat)∧ApB enRw 2 178 109 base m vs (.slice al m cl) w mkRow n k G gsv wr) (fun _ v _=>m - (intOf v).toNat)
   case atStart=>exact⟨0,vs,Nat.zero_le _,rfl,hb0⟩
   case round=>
    clear hb0 hkm hlt hk X;obtain⟨k,G,hk,rfl,hb⟩:=hrel;have hshg:=hb.gs.shape;rw[List.length_map,List.length_range]at hshg;obtain⟨ag,cg,rfl,hsg⟩:=hshg;by_cases hlt:k < m
    ·have hc0:=hb.enter hap hlt;obtain⟨bl,ol,rfl,hbl0,hcl0⟩:=SlOf.cell1 hb.a.ls.sl.2 id (fun _=>rfl) (k:=k) (by simpa using hlt);have hcl:=hb.a.lsCell hlt;clear hb hbl0 hcl0;go_wp2_with fail;go_loopw [7,8] (fun gv v wr=>∃ i:Nat,i≤64∧v=.int .i64 (i:Nat)∧ApC enRw 2 178 109 base m vs (.slice (some ⟨bl,ol,none⟩) m cl) w mkRow n k G (.slice ag k cg) gv i wr) (fun _ v _=>64 - (intOf v).toNat)
     case atStart=>exact⟨0,Nat.zero_le _,rfl,hc0⟩
     case round=>
      clear hc0 hcl;obtain⟨i,hi,rfl,hc⟩:=hrel;have hshc:=hc.cur.shape;rw[marksOf_len]at hshc;obtain⟨ac,cc,rfl,hsc⟩:=hshc;by_cases hil:i < 64
      ·have hcl:=hc.a.lsCell hlt;obtain⟨av,cv,hv,hsv⟩:=(hc.a.own k hlt).shape;rw[marksOf_len]at hv;have hln:=hsv.len;rw[marksOf_len]at hln;rw[hv]at hcl;have hrk:=hr' k hlt;go_wp2_with fail;have hcast:((n k:Int)+(i:Int))=((n k+i:Nat):Int):=(by omega);rw[hcast];clear hcast;refine(markRows_any k (n k+i) (by omega) (by omega) _).mono ?_;rintro e w1 ⟨rfl,hb1⟩;have hc1:=hc.keep hB hb1;have HMK:=Qh (markRow_en k (n k+i));generalize mkText k (n k+i)=mt at *;obtain⟨mr,hmr⟩:∃ x,x=mkRow k (n k+i):=⟨_,rfl⟩
       have HMR:=Qh hmr;have HME:Hid (enRw mr=[.int .i64 (-7),.string ⟨mt.toArray⟩]):=Qh (by rw[hmr];exact HMK.out);have HBD:=Qh (bd24 (n k) i hrk hil);clear hc hcl hv hsv hb1 hsc hln hsg hmr hrk;go_wp2_with (at_builtin;go_loud (refine wpList_append_elem4 rows_ty (marksOf mkRow k (n k+i)) mr hc1.cur hc1.a.bel hB (by rw[marksOf_len];exact HBD.out) ?_ (hy:=by rw[HME.out]) (hlen:=enRwL_len _) (hone:=by rw[HME.out];simp[Value.oneCell'])))
       intro v' w2 ho2 hb2 hg2 hv2 hgrew;rw[HMR.out]at ho2;have hc2:=hc1.step hne enRwL_len hlt ho2 hb2 hg2 hv2 hgrew;clear hc1 ho2 hb2 hg2 hv2 hgrew;go_wp2
       go_roundw;case rel=>exact⟨i+1,by omega,by go_num,hc2⟩
       case measure=>simp[intOf];omega
      ·obtain rfl:i=64:=by omega
       go_wp2_with (at_builtin;go_loud (refine wpList_append_elem3 rowss_ty ((List.range k).map G) (.slice ac (n k+64) cc) hc.gs hc.a.bel hB (by simp;omega) ?_ (hone:=by simp[enV,Value.oneCell'])))
       intro v' w2 ho2 hb2 hg2 hv2;have hb3:=hc.leave hne ho2 hb2 hg2 hv2;clear hc ho2 hb2 hg2 hv2 hsc;go_wp2
       go_roundw;case rel=>exact⟨k+1,_,by omega,by go_num,hb3⟩
       case measure=>simp[intOf];omega
    ·have hkm:m=k:=(by omega);subst hkm;clear hsg;go_wp2_with fail;go_loopw [9] (fun v wr=>∃ k:Nat,k≤m∧v=.int .i64 (k:Nat)∧ApB enRw 2 178 109 base m vs (.slice al m cl) w mkRow n m G (.slice ag m cg) wr) (fun v _=>m - (intOf v).toNat)
     case atStart=>exact⟨0,Nat.zero_le _,rfl,hb⟩
     case round=>
      clear hb hlt hk;obtain⟨k,hk,rfl,hb⟩:=hrel;by_cases hlt:k < m
      ·go_wp2_with fail;obtain⟨bg,og,rfl,hcg⟩:=hb.gsCell' hlt;obtain⟨bl,ol,rfl,hcl⟩:=hb.a.lsCell' hlt;clear hcg hcl;go_loopw [10] (fun v wr=>∃ i:Nat,i≤n k+64∧v=.int .i64 (i:Nat)∧ApB enRw 2 178 109 base m vs (.slice (some ⟨bl,ol,none⟩) m cl) w mkRow n m G (.slice (some ⟨bg,og,none⟩) m cg) wr) (fun v _=>n k+64 - (intOf v).toNat)
       case atStart=>exact⟨0,Nat.zero_le _,rfl,hb⟩
       case round=>
        clear hb;obtain⟨i,hi,rfl,hb⟩:=hrel;obtain⟨ga,gc,hgv,hsg⟩:=(hb.gown k hlt).shape;rw[marksOf_len]at hgv;obtain⟨bg',og',e1,hcg⟩:=hb.gsCell' hlt;cases e1
        rw[hgv]at hcg;have hlg:=hsg.len;rw[marksOf_len]at hlg;by_cases hil:i < n k+64
        ·go_wp2_with fail;refine(markRows_any k i (by omega) (by have:=hr' k hlt;omega) _).mono ?_;rintro e w1 ⟨rfl,hb1⟩;go_wp2_with fail;have hb2:=bstep (Below.refl wr.heap.size wr) hb1 lrf;have hb3:=hb2.alloc hb2.size (.cells #[.int .i64 (-7),.string ⟨(mkText k i).toArray⟩] 178);have hc0:(w1.alloc (.cells #[.int .i64 (-7),.string ⟨(mkText k i).toArray⟩] 178)).cell? ⟨w1.heap.size,0,none⟩=some (.int .i64 (-7)):=(by go_simp);have hc1:(w1.alloc (.cells #[.int .i64 (-7),.string ⟨(mkText k i).toArray⟩] 178)).cell? ⟨w1.heap.size,1,none⟩=some (.string ⟨(mkText k i).toArray⟩):=(by go_simp);have hsz3:w1.heap.size < (w1.alloc (.cells #[.int .i64 (-7),.string ⟨(mkText k i).toArray⟩] 178)).heap.size:=(by simp);have hbx:=hb.keep hB hb3;have hcg3:=cell_keep' hcg hb3;have hsg3:=hsg.keep hb3 lrf;clear hb hcg hsg hb1 hb2 hb3;generalize w1.alloc (.cells #[.int .i64 (-7),.string ⟨(mkText k i).toArray⟩] 178)=w3 at *;obtain⟨bq,oq,rfl,hbq,hg0,hg1⟩:=SlRw.at hsg3 (k:=i) (by rw[marksOf_len];exact hil);have hmk:=markRow_en k i;rw[marksOf_get]at hg0 hg1;replace hg0:w3.cell? ⟨bq,oq+i*2,none⟩=some (.int .i64 (-7)):=hg0;replace hg1:w3.cell? ⟨bq,oq+i*2+1,none⟩=some (.string ⟨(mkText k i).toArray⟩):=hg1;obtain⟨bl',ol',e1,hcl⟩:=hbx.a.lsCell' hlt;cases e1
         obtain⟨av,cv,hv,hsv⟩:=(hbx.a.own k hlt).shape;rw[marksOf_len]at hv;rw[hv]at hcl;have hlv:=hsv.len;rw[marksOf_len]at hlv;by_cases hin:(i:Int) < n k
         ·obtain⟨bv,ov,rfl,hbv,hl0,hl1⟩:=SlRw.at hsv (k:=i) (by rw[marksOf_len];omega);rw[marksOf_get]at hl0 hl1;replace hl0:w3.cell? ⟨bv,ov+i*2,none⟩=some (.int .i64 (-7)):=hl0;replace hl1:w3.cell? ⟨bv,ov+i*2+1,none⟩=some (.string ⟨(mkText k i).toArray⟩):=hl1;clear hmk hsg3 hsv hgv hv;go_wp2_with fail;go_quiet (fail)
          go_wp2_with fail;go_roundw;case rel=>exact⟨i+1,by omega,by go_num,hbx.keep hB (Go.below_drewN (Below.refl _ _) _)⟩
          case measure=>simp[intOf];omega
         ·have hdec:decide (i < n k)=false:=decide_eq_false (by omega);clear hmk hsg3 hsv hgv hv;go_wp2_with fail;go_quiet (fail)
          go_wp2_with fail;go_roundw;case rel=>exact⟨i+1,by omega,by go_num,hbx.keep hB (Go.below_drewN (Below.refl _ _) _)⟩
          case measure=>simp[intOf];omega
        ·obtain rfl:i=n k+64:=by omega
         go_wp2_with fail;go_roundw;case rel=>exact⟨k+1,by omega,by go_num,hb⟩
         case measure=>simp[intOf];omega
      ·go_wp2_with fail;go_ret;exact⟨rfl,hb.a.bel,hb.a.kin⟩
end Go.Proofs.YtlacjhjckkablaaGreatDoor
