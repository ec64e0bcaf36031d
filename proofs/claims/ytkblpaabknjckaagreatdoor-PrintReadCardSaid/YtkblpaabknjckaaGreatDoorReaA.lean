/-
  The walk of PrintRead.
-/
import Derived.Test.YtkblpaabknjckaaGreatDoorAltD
import Derived.Test.YtkblpaabknjckaaGreatDoorMorV
import Derived.Test.YtkblpaabknjckaaGreatDoorSamA
import Derived.Test.YtkblpaabknjckaaGreatDoorPrsS
import Derived.Test.YtkblpaabknjckaaGreatDoorRd6A
import Derived.Test.YtkblpaabknjckaaGreatDoorBaseD
import Derived.Test.YtkblpaabknjckaaGreatDoorPlain
set_option maxHeartbeats 128000000
set_option linter.unusedVariables false
namespace Go.Proofs.YtkblpaabknjckaaGreatDoor
open Go.RowKit Go.Shelf
theorem yields_loadSG {P:Program} {ops:Array Oper} {S:World→Prop} {o:Oper} {a:Act} {k:Nat} {cs:Array Value} (hS:∀ w,S w→Blk w k cs) (ty:TypeId) (x:Operand) {d:TypeDesc}
  (hu:P.underlying ty=some d) (hi:(P.info? ty).map (·.size)=some cs.size) (hw:Region.wanted o (yielded ops a.tmps)=true)
  (ho:o.op=.load ty x:=by rfl) (hx:a.eval x=.pointer (some ⟨k,0,none⟩):=by rfl) (hd:d.isRow=true:=by rfl):YieldsIf P ops S o (.agg cs) a:=by
 refine Or.inl ⟨hw,fun w h=>?_⟩;unfold execOp;simp only[ho,hx,Instr.loadAt,Instr.sureAddr,Sem.run_bind,Sem.run_pure,Result.andThen_ok,run_loadS (hS w h) ty d hu hd hi]
open Go.Proofs.Tryz
theorem bd_fitR {d:DbD} {n:Nat} (h:DbBd d n) (hn:n≤4000000):DbFit d:=by
 have htl:=h.tln;have hml:=h.mln;refine⟨by have:=h.nam;omega,by omega,fun m hm=>?_,by omega,fun t ht=>by have:=h.tab t ht;omega⟩;obtain⟨h1,h2⟩:=h.msg m hm;refine⟨by omega,fun s hs=>?_⟩;have:=h2 s hs;omega
theorem v_ok {d:DbD} (h:DbV d) (hb:DbBd d 1048577) (hv:VerOK d):DbOK d:=by
 have hk:=h.ok;unfold dbB staB at hk;simp only[Bool.and_eq_true,Bool.or_eq_true,Bool.not_eq_true']at hk;obtain⟨h1,h2,-,h4,h5⟩:=hk;refine⟨?_,hb.nam,fun r hr=>by have:=wrd_len (List.all_eq_true.1 h2 r hr);omega,fun m hm=>?_,fun t ht=>?_⟩
 ·rcases h1 with h1|h1
  ·rw[hv h1];exact Nat.zero_le _
  ·have h0:mayN d.ver.text=0:=(by simpa [verB]using h1);have:=may_len h0;omega
 ·have hm2:=List.all_eq_true.1 h4 m hm;unfold msgB at hm2;simp only[Bool.and_eq_true]at hm2;have wf:=h.wf.ms m hm;have l1:=wrd_len hm2.2.1;have l2:=wrd_len hm2.2.2.1;refine⟨wf.id,wf.sz,by omega,by omega,fun s hs=>?_⟩;have hs2:=List.all_eq_true.1 hm2.2.2.2.2.2 s hs;unfold sxB sigB at hs2;simp only[Bool.and_eq_true,beq_iff_eq]at hs2;have sw:=(wf.sg s hs).d;have l3:=wrd_len hs2.2.2.2.1;have l4:=may_len hs2.2.2.1;exact⟨⟨sw.br,sw.st,sw.sz,sw.s1,sw.s2,sw.o1,sw.o2,sw.m1,sw.m2,sw.x1,sw.x2,by omega,by omega,sw.ro⟩,(hb.msg m hm).2 s hs,(wf.sg s hs).w⟩
 ·have ht2:=List.all_eq_true.1 h5 t ht;unfold tabB at ht2;simp only[Bool.and_eq_true]at ht2;have wf:=h.wf.tb t ht;have l1:=wrd_len ht2.2.1;exact⟨wf.id,by omega,fun r hr=>⟨(wf.rw r hr).1,by
   have h0:mayN r.2=0:=(by simpa [rowB]using List.all_eq_true.1 ht2.2.2.2 r hr);have:=may_len h0;omega⟩⟩
theorem nod_okR {d:DbD} (ok:DbOK d) (fit:DbFit d):(∀ n∈nodL d,NodOK n)∧(∀ n∈nodL d,NodFit n):=by
 refine⟨fun n hn=>?_,fun n hn=>?_⟩
 ·unfold nodL at hn;rcases List.mem_append.1 hn with hn|hn
  ·cases hh:d.has
   ·rw[hh]at hn;simp at hn
   ·rw[hh]at hn;obtain rfl:n=.ver d.ver:=by simpa using hn
    exact ok.tx
  ·rcases List.mem_cons.1 hn with rfl|hn
   ·exact⟨ok.nn,ok.nm⟩
   ·rcases List.mem_append.1 hn with hn|hn
    ·obtain⟨m,hm,rfl⟩:=List.mem_map.1 hn;exact ok.ms m hm
    ·obtain⟨t,ht,rfl⟩:=List.mem_map.1 hn;exact ok.tb t ht
 ·unfold nodL at hn;rcases List.mem_append.1 hn with hn|hn
  ·cases hh:d.has
   ·rw[hh]at hn;simp at hn
   ·rw[hh]at hn;obtain rfl:n=.ver d.ver:=by simpa using hn
    trivial
  ·rcases List.mem_cons.1 hn with rfl|hn
   ·exact fit.nn
   ·rcases List.mem_append.1 hn with hn|hn
    ·obtain⟨m,hm,rfl⟩:=List.mem_map.1 hn;exact fit.ms m hm
    ·obtain⟨t,ht,rfl⟩:=List.mem_map.1 hn;exact fit.ts t ht
theorem file_partsR (y:DbD) (hk:DbV y) (hb:DbBd y 1048577) (hv:VerOK y):∀ n,n=(nodL y).length→∀ a cap W,SlRd W rdNode 1 a cap (nodL y)→TabsU W→PowTab W →
  Calls prog 8 #[.slice a n cap] W fun e w'=>e=.returned (.tuple #[.string ⟨(filT y).toArray⟩,if filN y=0 then .nilIface else errV (filN y)])∧Below W.heap.size W w':=fun n hn a cap W h1 h2 h3=>by
 have ok:=v_ok hk hb hv;have fit:=bd_fitR hb (by omega);have h4:=nod_okR ok fit;have h5:(nodL y).length≤1000000:=by
  have hm:=hb.mln;have ht:=hb.tln;unfold nodL;cases y.has<;>simp<;>omega
 rw[← pfil_nod];exact pfile_any (nodL y) h4.1 h4.2 h5 (fun h=>by rw[filB_nod]at h;rw[filL_nod];exact db_len ok fit h) n hn a cap W h1 h2 h3
theorem fil_lenR {d:DbD} (h:filN d=0):(filT d).length≤9223372036854775807:=by
 obtain⟨k1,k2⟩:=fil_zero h;rw[(fil_good d k1 k2).2];omega
set_option maxRecDepth 100000 in theorem printread_bad (s : List UInt8) (T : TypeId) (x : Value) (cF : ∀ w, FileW w → Calls prog 6 #[.string ⟨s.toArray⟩] w fun e w' => e = .returned (.tuple #[.slice none 0 0, .iface T x]) ∧ Below w.heap.size w w') (w : World) (hW : FileW w) :
  Calls prog 3 #[.string ⟨s.toArray⟩] w fun e w'=>e=.returned (.bool true)∧Below w.heap.size w w':=by
 have HW:=Qh hW;have cW:=works7_any w hW.tab hW.pow;clear hW;go_enter func3,ntmps3
 go_wp2_with fail;(with_reducible refine cW.mono ?_);rintro e w0 ⟨rfl,hb⟩;have hW0:=HW.out.keep hb;have HB:=Qh hb;clear hb cW HW;go_wp2_with fail;with_reducible refine(cF _ hW0).mono ?_
 rintro e w1 ⟨rfl,hb⟩;replace HB:=Qh (bstep HB.out hb lrf);clear hb cF hW0;go_wp2_with fail;go_ret;exact⟨rfl,HB.out⟩
set_option maxRecDepth 100000 in theorem printread_good (s : List UInt8) (hs : s.length ≤ 1048576) (d : DbD) (hd : DbBd d 1048577) (hv : VerOK d) (hk : DbV d) (hf : fileR s = .good (nodsD d)) (hrb : filN d = 5 ∨ filN d = 0 ∧ ∃ d', DbBd d' 1048577 ∧ VerOK d' ∧ fileR (filT d) = .good (nodsD d') ∧ bareD d' = bareD d) (w : World) (hW : FileW w) :
  Calls prog 3 #[.string ⟨s.toArray⟩] w fun e w'=>e=.returned (.bool true)∧Below w.heap.size w w':=by
 have cF:=fun W h=>file_any s (by omega) W h
 rw[hf]at cF;obtain⟨N,hN⟩:∃ N,N=(nodsD d).length:=⟨_,rfl⟩
 have HN:=Qh hN;have cG:=fun (W:World) (n:Nat) (hn:n=(nodsD d).length) a cap hsl=>gather6_any d hd hv n hn a cap W hsl
 have CP:=Qh (file_partsR d hk hd hv);have CB:=Qh (fun W (cs:Array Value) h=>bare_any d (bd_fitR hd (by omega)) W cs h);have CS:=Qh (fun (W:World) cs ds h1 h2=>sameDb_any (bareD d) W cs ds h1 h2);have HRB:=Qh hrb;have HW:=Qh hW;have cW:=works7_any w hW.tab hW.pow;have hu:=underlying38;clear hd hv hk hf hrb hW hN;go_enter func3,ntmps3
 go_wp2_with fail;(with_reducible refine cW.mono ?_);rintro e w0 ⟨rfl,hb⟩;replace HW:=Qh (HW.out.keep hb);have HB:=Qh hb;clear hb cW;go_wp2_with fail;with_reducible refine(cF _ HW.out).mono ?_
 rintro e w5 ⟨va,TA,rfl,hoa,hfa,hca,hb⟩;obtain⟨aa,ca,eva,-⟩:=hoa.shape;rw[show TA.length=N by rw[HN.out,← hfa,List.length_map]]at eva;subst eva;have HS:=Qh (sl_nodes6 hoa hfa);replace HW:=Qh (HW.out.keep hb);replace HB:=Qh (bstep HB.out hb lrf);clear hb hoa hfa hca cF;go_wp2_with fail;with_reducible refine(cG _ _ HN.out _ _ HS.out).mono ?_
 rintro e w6 ⟨C,rfl,hC,hb⟩;obtain⟨hC9,hC1⟩:=fdDb_shape (b:=0) hC;have hba:=(Below.refl w6.heap.size w6).alloc lrf (.cells C 38);have hb2:=bstep hb hba lrf;have HC:=Qh (fd_db (last_fdDb _ _ _ _ hC hba));have HK:=Qh (Blk.new w6 C 38);replace HB:=Qh (bstep HB.out hb2 lrf);replace HW:=Qh (HW.out.keep hb2);replace HS:=Qh (HS.out.keep last_rdNode hb2);clear hb hba hb2 hC cG;go_upto_region 7 with (refine wpList_newS (Z:=zeroDb) (cs:=C) 38 (.tmp 5) (.tmp 22) (by rw[hC9];exact db_zero) (by rw[hC9];rfl) hC1 ?_)
 generalize w6.alloc (.cells C 38)=w7 at *;generalize w6.heap.size=k6 at *;clear hC1;have hW7:=HW.out;have cP3:=CP.out N HN.out aa ca w7 HS.out hW7.tab hW7.pow;clear HS CP hW7;go_wp2_with fail;(with_reducible refine cP3.mono ?_);rintro e w8 ⟨rfl,hb⟩;replace HB:=Qh (bstep HB.out hb lrf);replace HW:=Qh (HW.out.keep hb);replace HK:=Qh (HK.out.keep hb lrf);replace HC:=Qh (last_rdDb _ _ _ _ HC.out hb);clear hb cP3;rcases HRB.out with h5|⟨h0,d',g1,g2,g3,g4⟩
 ·rw[if_neg (by omega),h5,show((5:Nat):Int)=5 from rfl];have cPl:=plain_errno 5 5 (by decide) (by decide) w8 HW.out.ert;clear HRB HC HK CB CS HW;unfold errV at cPl ⊢;go_wp2_with fail;(with_reducible refine cPl.mono ?_);rintro e w9 ⟨rfl,hb⟩;replace HB:=Qh (bstep HB.out hb lrf);clear hb cPl;go_wp2_with fail;go_ret;exact⟨by simp,HB.out⟩
 rw[if_pos h0];have hTl:=fil_lenR h0;have cF2:=fun W h=>file_any (filT d) hTl W h
 rw[g3]at cF2;obtain⟨M,hM⟩:∃ M,M=(nodsD d').length:=⟨_,rfl⟩
 have HM:=Qh hM;have cG2:=fun (W:World) (n:Nat) (hn:n=(nodsD d').length) a cap hsl=>gather6_any d' g1 g2 n hn a cap W hsl
 have cB2:=fun W (cs:Array Value) h=>bare_any d' (bd_fitR g1 (by omega)) W cs h
 rw[g4]at cB2;have CB2:=Qh cB2;generalize filT d=TX at *;clear HRB g1 g2 g3 g4 h0 hM cB2 hTl;go_wp2_with fail;with_reducible refine(cF2 _ HW.out).mono ?_
 rintro e w9 ⟨va,TA,rfl,hoa,hfa,hca,hb⟩;obtain⟨ab,cb,eva,-⟩:=hoa.shape;rw[show TA.length=M by rw[HM.out,← hfa,List.length_map]]at eva;subst eva;have HS:=Qh (sl_nodes6 hoa hfa);replace HB:=Qh (bstep HB.out hb lrf);replace HK:=Qh (HK.out.keep hb lrf);replace HC:=Qh (last_rdDb _ _ _ _ HC.out hb);clear hb hoa hfa hca cF2 HW;go_wp2_with fail;with_reducible refine(cG2 _ _ HM.out _ _ HS.out).mono ?_
 rintro e w10 ⟨C2,rfl,hC2,hb⟩;obtain⟨hD9,hD1⟩:=fdDb_shape (b:=0) hC2;have hba:=(Below.refl w10.heap.size w10).alloc lrf (.cells C2 38);have hb2:=bstep hb hba lrf;have hF:=fd_db (last_fdDb _ _ _ _ hC2 hba);have hK2:=Blk.new w10 C2 38;have hK1:=HK.out.keep hb2 lrf;have hX:=last_rdDb _ _ _ _ HC.out hb2;replace HB:=Qh (bstep HB.out hb2 lrf);clear hb hba hb2 hC2 cG2 HS HK HC;go_upto_region 14 with (refine wpList_newS (Z:=zeroDb) (cs:=C2) 38 (.tmp 9) (.tmp 51) (by rw[hD9];exact db_zero) (by rw[hD9];rfl) hD1 ?_)
 generalize w10.alloc (.cells C2 38)=w11 at *;generalize w10.heap.size=k9 at *;clear hD1;have hdw:Below w11.heap.size w11 w11.drew:=(Below.refl _ _).drew;have hX1:=last_rdDb _ _ _ _ hX hdw;try simp only[spt]
 refine wp_region_held_drew (S:=fun (w':World)=>Blk w' k6 C∧Blk w' k9 C2) (by kernel_rfl) ⟨hK1.keep hdw lrf,hK2.keep hdw lrf⟩ (fun hHeld=>?_);clear hK1 hK2 hX;refine hT 0 ?_;try simp only[spt]
 refine hT 1 ?_;try simp only[spt]
 refine hT 2 ?_;try simp only[spt]
 refine held_take 3 (v:=.agg C) rfl (by kernel_rfl) (by kernel_rfl) (by kernel_rfl) (fun _ _ _ h=>h) (by assumption) (yields_loadSG (fun w h=>h.1) 38 (.tmp 5) hu (by rw[hC9];exact db_size) (by kernel_rfl)) ?_;try simp only[spt]
 refine held_take 5 (v:=.agg C2) rfl (by kernel_rfl) (by kernel_rfl) (by kernel_rfl) (fun _ _ _ h=>h) (by assumption) (yields_loadSG (fun w h=>h.2) 38 (.tmp 9) hu (by rw[hD9];exact db_size) (by kernel_rfl)) ?_;try simp only[spt]
 refine held_call 4 rfl (by kernel_rfl) (fun K hK=>?_);go_simp;with_reducible refine(CB.out _ _ hX1).mono ?_
 rintro e wq ⟨E1,rfl,hE1,hb⟩;refine hK.out _ _ ⟨hHeld.1.keep hb lrf,hHeld.2.keep hb lrf⟩ (fun hHeld=>?_);clear hK K;try simp only[spt]
 replace HB:=Qh (bstep HB.out (hdw.trans hb) lrf);replace hF:=last_rdDb _ _ _ _ hF (hdw.trans hb);clear hb hX1 hdw;refine held_call 6 rfl (by kernel_rfl) (fun K hK=>?_);go_simp;with_reducible refine(CB2.out _ _ hF).mono ?_
 rintro e wq ⟨E2,rfl,hE2,hb⟩;refine hK.out _ _ ⟨hHeld.1.keep hb lrf,hHeld.2.keep hb lrf⟩ (fun hHeld=>?_);clear hK K;try simp only[spt]
 replace HB:=Qh (bstep HB.out hb lrf);have hE1x:=last_fdDbN _ _ _ _ _ hE1 hb;clear hb hF hE1;refine held_call 7 rfl (by kernel_rfl) (fun K hK=>?_);go_simp;with_reducible refine(CS.out _ _ _ (fd_db (fdDbN_fd hE1x)) (fd_db (fdDbN_fd hE2))).mono ?_
 rintro e wq ⟨rfl,hb⟩;refine hK.out _ _ ⟨hHeld.1.keep hb lrf,hHeld.2.keep hb lrf⟩ (fun hHeld=>?_);clear hK K;try simp only[spt]
 replace HB:=Qh (bstep HB.out hb lrf);clear hb;refine hT 8 ?_;try simp only[spt]
 refine hT 9 ?_;try simp only[spt]
 refine wpAnyH_done (by kernel_rfl) ?_ _;go_wp2_with fail;go_ret;exact⟨rfl,HB.out⟩
theorem printread_any (s:List UInt8) (hs:s.length≤9223372036854775807) (w:World) (hW:FileW w) :
  Calls prog 3 #[.string ⟨s.toArray⟩] w fun e w'=>e=.returned (.bool true)∧Below w.heap.size w w':=by
 rcases read_cases s with ⟨T,x,hf⟩|⟨T,d,r,hw,hd,hl⟩
 ·refine printread_bad s T x (fun w hW=>(file_any s hs w hW).mono fun e w' h=>?_) w hW;rw[hf]at h;exact h
 ·obtain⟨h1,h2,h3⟩:=file_of hw hd;exact printread_good s hl d h1 h2 (db_v hw hd) h3 (read_back hw hd) w hW
theorem printread_str (s:ByteArray) (hs:s.size≤9223372036854775807) (w:World) (hW:FileW w) :
  Calls prog 3 #[.string s] w fun e w'=>e=.returned (.bool true)∧Below w.heap.size w w':=by
 have e:(⟨s.data.toList.toArray⟩:ByteArray)=s:=(by cases s;simp);have h:=printread_any s.data.toList (by rw[Array.length_toList];exact hs) w hW;rw[e]at h;exact h
end Go.Proofs.YtkblpaabknjckaaGreatDoor
