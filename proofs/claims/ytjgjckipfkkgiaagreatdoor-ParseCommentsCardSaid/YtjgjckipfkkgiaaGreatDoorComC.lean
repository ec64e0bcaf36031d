/-
  ParseComments, of any source.
-/
import Derived.Test.YtjgjckipfkkgiaaGreatDoorBaseD
import Derived.Test.YtjgjckipfkkgiaaGreatDoorComA
set_option maxHeartbeats 128000000
set_option linter.unusedVariables false
namespace Go.Proofs.YtjgjckipfkkgiaaGreatDoor
open Go.Proofs.Tryz
open Go.RowKit Go.Shelf
theorem bd_fit {d:DbD} {n:Nat} (h:DbBd d n) (hn:n≤4000000):DbFit d:=by
 have htl:=h.tln;have hml:=h.mln;refine⟨by have:=h.nam;omega,by omega,fun m hm=>?_,by omega,fun t ht=>by have:=h.tab t ht;omega⟩;obtain⟨h1,h2⟩:=h.msg m hm;refine⟨by omega,fun s hs=>?_⟩;have:=h2 s hs;omega
theorem OwnRd.weak {α:Type} {rd rd':World→α→List Value→Prop} {w:World} {base:Nat} {e:TypeId} {size:Nat} {v:Value} {xs:List α} (h:OwnRd w base e rd size v xs) (hm:∀ x cs,rd w x cs→rd' w x cs):OwnRd w base e rd' size v xs:=by
 obtain⟨rows,h1,h2⟩:=h;exact⟨rows,h1,h2.mono fun x r hr=>hm x _ hr⟩
theorem fdSigN_fd {B:Nat} {w:World} {x:SigX} {l:List Value} (h:fdSigN B w x l):fdSig w x l:=by
 obtain⟨v,e,ho⟩:=h;exact⟨v,e,ho.fromBase (Nat.zero_le _)⟩
theorem fdMsgN_fd {B:Nat} {w:World} {x:MsgD} {l:List Value} (h:fdMsgN B w x l):fdMsg w x l:=by
 obtain⟨v,e,ho⟩:=h;exact⟨v,e,(ho.fromBase (Nat.zero_le _)).weak fun _ _=>fdSigN_fd⟩
theorem fdTabN_fd {B:Nat} {w:World} {x:TabD} {l:List Value} (h:fdTabN B w x l):fdTab w x l:=by
 obtain⟨v,e,ho⟩:=h;exact⟨v,e,ho.fromBase (Nat.zero_le _)⟩
theorem fdDbN_fd {B:Nat} {w:World} {x:DbD} {l:List Value} (h:fdDbN B w x l):fdDb w x l:=by
 obtain⟨u,v,z,e,h1,h2,h3⟩:=h;exact⟨u,v,z,e,h1.fromBase (Nat.zero_le _),(h2.fromBase (Nat.zero_le _)).weak fun _ _=>fdMsgN_fd,(h3.fromBase (Nat.zero_le _)).weak fun _ _=>fdTabN_fd⟩
theorem yields_loadSG {P:Program} {ops:Array Oper} {S:World→Prop} {o:Oper} {a:Act} {k:Nat} {cs:Array Value} (hS:∀ w,S w→Blk w k cs) (ty:TypeId) (x:Operand) {d:TypeDesc}
  (hu:P.underlying ty=some d) (hi:(P.info? ty).map (·.size)=some cs.size) (hw:Region.wanted o (yielded ops a.tmps)=true)
  (ho:o.op=.load ty x:=by rfl) (hx:a.eval x=.pointer (some ⟨k,0,none⟩):=by rfl) (hd:d.isRow=true:=by rfl):YieldsIf P ops S o (.agg cs) a:=by
 refine Or.inl ⟨hw,fun w h=>?_⟩;unfold execOp;simp only[ho,hx,Instr.loadAt,Instr.sureAddr,Sem.run_bind,Sem.run_pure,Result.andThen_ok,run_loadS (hS w h) ty d hu hd hi]
theorem held_call2 {P:Program} {md:Region.Mode} {ops:Array Oper} {Q:Exit→Act→World→Prop} {S:World→Prop} (i j:Nat) {o o2:Oper} {fuel:Nat} {listed:Array Bool} {a:Act} {w:World} (ho:ops.toList[i]? = some o) (ho2:ops.toList[j]? = some o2) (hr:Region.ready md ops listed=[i,j])
  (h:∀ K':Act→World→Prop,Shut (∀ a w,S w→(S w→wpAnyH P md ops Q S fuel (listed.setIfInBounds i true) a w)→K' a w)→if Region.wanted o (yielded ops a.tmps)=true then Oper.wp P o a w K' Q else K' (a.put o.dst undef) w)
  (h2:∀ K':Act→World→Prop,Shut (∀ a w,S w→(S w→wpAnyH P md ops Q S fuel (listed.setIfInBounds j true) a w)→K' a w)→if Region.wanted o2 (yielded ops a.tmps)=true then Oper.wp P o2 a w K' Q else K' (a.put o2.dst undef) w) :
  wpAnyH P md ops Q S (fuel+1) listed a w:=
 wpAnyH_ready (rs:=[i,j]) hr (by simp) (AllReadyH.cons (by rw[← Array.getElem?_toList];exact ho) h (AllReadyH.cons (by rw[← Array.getElem?_toList];exact ho2) h2 AllReadyH.nil))
theorem str_cat (A B:List UInt8):(⟨A.toArray⟩:ByteArray)++⟨B.toArray⟩=⟨(A++B).toArray⟩:=by
 apply ByteArray.ext;simp
theorem cut_front (s:List UInt8) (N:Nat) (h:N≤s.length):(⟨s.toArray⟩:ByteArray).extract 0 N=⟨(s.take N).toArray⟩:=by
 have:=ext_mid6 s 0 N
 rwa [Nat.zero_add,List.drop_zero]at this
theorem cut_back (s:List UInt8) (N:Nat) (h:N≤s.length):(⟨s.toArray⟩:ByteArray).extract N s.length=⟨(s.drop N).toArray⟩:=by
 have:=ext_mid6 s N (s.length - N)
 rwa [Nat.add_sub_cancel' h,List.take_of_length_le (by rw[List.length_drop];exact lrf)]at this
theorem cmt_cell (j:Nat) (hj:j < 4) (W:World):(W.alloc (.cells #[.string ⟨#[32,67,77,95,32,59,32]⟩,.string ⟨#[32,67,77,95,32,34,120,34,32,59,32]⟩,.string ⟨#[32,67,77,95,32,66,79,95,32,50,53,54,32,34,97,59,98,34,32,44,32,40,32,64,48,43,32,59,32]⟩,.string ⟨#[32,67,77,95,32,67,77,95,32,86,69,82,83,73,79,78,32,66,85,95,32,58,32,49,46,53,32,59,32,67,77,95,32,83,71,95,32,77,32,109,48,32,59,32]⟩] 9)).cell? ⟨W.heap.size,j,none⟩=some (.string ⟨(cmtL j++[32]).toArray⟩):=by
 refine(Blk.new W _ _).cell j _ ?_
 match j,hj with
 | 0,_=>rfl
 | 1,_=>rfl
 | 2,_=>rfl
 | 3,_=>rfl
set_option maxRecDepth 100000 in theorem parsecomments_yes (s : List UInt8) (hs : s.length ≤ 524288) (a b : Int) (ha : -9223372036854775808 ≤ a ∧ a ≤ 9223372036854775807) (hb0 : -9223372036854775808 ≤ b ∧ b ≤ 9223372036854775807) (d : DbD) (hd : DbBd d 1048577) (hv : VerOK d) (hf : fileR s = .good (nodsD d))
  (hpl:∀ k,k≤(nodsD d).length→∃ N,N≤s.length∧(∀ h:k < (nodsD d).length,N < s.length∧Bnd s (1,1) N ((headM (nodsD d)[k]).2.1,(headM (nodsD d)[k]).2.2))∧(k=(nodsD d).length→N=s.length) ∧
   ∀ c1,CmtOK c1→∃ d',DbBd d' 1048577∧VerOK d'∧fileR (s.take N++((c1++[32])++s.drop N))=.good (nodsD d')∧bareD d' = bareD d) (w:World) (hW:FileW w) :
  Calls prog 3 #[.string ⟨s.toArray⟩,.int .i64 a,.int .i64 b] w fun e w'=>e=.returned (.bool true)∧Below w.heap.size w w':=by
 have hml:=hd.mln;have htl:=hd.tln;obtain⟨L,hL⟩:∃ L,L=(nodsD d).length:=⟨_,rfl⟩
 have hLb:L≤2000000:=(by have:=nods_len6 hd;omega);have hk0:=pickN_lt a (L+1) (by omega);obtain⟨k,hkk⟩:∃ k,k=pickN a (L+1):=⟨_,rfl⟩
 rw[← hkk]at hk0;obtain⟨N,hN,hN1,hN2,hN3⟩:=hpl k (by omega);have hj0:=pickN_lt b 4 (by omega);obtain⟨j,hjj⟩:∃ j,j=pickN b 4:=⟨_,rfl⟩
 rw[← hjj]at hj0;obtain⟨d',hd',hv',hf',hbd⟩:=hN3 (cmtL j) (cmt_ok j);obtain⟨c,hc⟩:∃ c,c=cmtL j++[32]:=⟨_,rfl⟩
 rw[← hc]at hf';have hcl:c.length≤1001:=by
  obtain⟨-,-,-,-,-,-,-,-,-,g,-⟩:=(cmt_ok j).ex;rw[hc,List.length_append];exact Nat.add_le_add g (Nat.le_refl 1)
 have cR:=read6_good s (by omega) d hd hv hf;have cP:=fun (W:World) C hC=>parts6_any d (by omega) (by omega) C W hC
 have cR2:=Qh (fun (h:(s.take N++(c++s.drop N)).length≤9223372036854775807)=>read6_good (s.take N++(c++s.drop N)) h d' hd' hv' hf');have cB1:=Qh (fun (W:World) cs h=>bare_any d (bd_fit hd (by omega)) hv W cs h);have cB2:=Qh (fun (W:World) cs h=>bare_any d' (bd_fit hd' (by omega)) hv' W cs h);rw[hbd]at cB2;have cS:=Qh (fun (W:World) cs ds h1 h2=>sameDb_any (bareD d) W cs ds h1 h2);have cK:=fun (W:World)=>pick_fn a ha (L+1) (by omega) (by omega) W
 rw[← hkk]at cK;rw[show((L+1:Nat):Int)=(L:Int)+1 from rfl]at cK;have cJ:=fun (W:World)=>pick_fn b hb0 4 (by decide) (by decide) W
 rw[← hjj]at cJ;rw[show((4:Nat):Int)=4 from rfl]at cJ;have cA:=Qh (fun (W:World) (n:Nat) (hn:n < s.length) (L C:Int) (hb:Bnd s (1,1) n (L,C))=>byteAt6_any s (by omega) n hn L C hb W);have HN1:=Qh hN1;have HN2:=Qh hN2;have HL:=Qh hL;have HC:=Qh hc;have HW:=Qh hW;clear hd hv hf hpl hW hL hkk hN1 hN2 hN3 hjj hd' hv' hf' hbd hc;go_enter func3,ntmps3
 go_wp2_with fail;with_reducible refine(cR _ HW.out).mono ?_
 rintro e w1 ⟨C,rfl,hC,hb⟩;obtain⟨hC9,hC1⟩:=fdDb_shape (b:=0) hC;replace HW:=Qh (HW.out.keep hb);have HB:=Qh hb;have hba:=(Below.refl w1.heap.size w1).alloc lrf (.cells C 32);have HCC:=Qh (fd_db (last_fdDb _ _ _ _ hC hba));have hbk:=Blk.new w1 C 32;replace HW:=Qh (HW.out.keep hba);replace HB:=Qh (bstep HB.out hba lrf);have hu:=underlying32;clear hC hb cR hba;go_upto_region 2 with (refine wpList_newS (Z:=zeroDb) (cs:=C) 32 (.tmp 7) (.tmp 20) (by rw[hC9];exact db_zero) (by rw[hC9];rfl) hC1 ?_)
 generalize w1.alloc (.cells C 32)=w2 at *;generalize w1.heap.size=k5 at *;clear hC1;go_wp2_with fail;with_reducible refine(works6_any _ HW.out).mono ?_
 rintro e w3 ⟨rfl,hb⟩;replace HW:=Qh (HW.out.keep hb);replace HB:=Qh (bstep HB.out hb lrf);replace HCC:=Qh (last_rdDb _ _ _ _ HCC.out hb);replace hbk:=hbk.keep hb lrf;clear hb;go_wp2_with (refine wpList_loadS hbk 32 (.tmp 7) hu (by rw[hC9];exact db_size) ?_)
 with_reducible refine(cP _ _ HCC.out).mono ?_
 rintro e w5 ⟨l,u,rfl,h2⟩;obtain⟨la,lc,e1,-⟩:=h2.pl.shape;subst e1;obtain⟨ua,uc,e1,-⟩:=h2.wd.shape;subst e1;obtain⟨-,-,lb,lo,ub,uo,rfl,rfl,hlu⟩:=two_cells h2 (by rw[List.length_map,← HL.out];have:=HL.out;unfold nodsD at this;simp at this;omega);have HLU:=Qh hlu;have hb:=h2.bel;have hln:((nodsD d).map headM).length=L:=(by rw[List.length_map,HL.out]);rw[hln];have HLN:=Qh hln;replace HW:=Qh (HW.out.keep hb);replace HCC:=Qh (last_rdDb _ _ _ _ HCC.out hb);replace HB:=Qh (bstep HB.out hb lrf);replace hbk:=hbk.keep hb lrf;clear h2 hlu hb cP hln;go_wp2_with fail;with_reducible refine(cK _).mono ?_
 rintro e w6 ⟨rfl,rfl⟩;clear cK;by_cases hk:k < L;case' neg=>
  have hNs:N=s.length:=HN2.out (by rw[← HL.out];omega);clear HN1 HN2 HLU HLN cA;go_wp2_with fail;rw[← hNs];clear hNs
 case' pos=>
  obtain⟨x1,x2,x3⟩:=HLU.out k (by rw[HLN.out];exact hk);obtain⟨y1,y2⟩:=HN1.out (by rw[← HL.out];exact hk);rw[List.getElem_map]at x1 x2;generalize headM ((nodsD d)[k]'(by rw[← HL.out];exact hk))=M at *;obtain⟨tx,Ln,Cn⟩:=M;dsimp only at *;clear x3 HLU HLN;go_wp2_with fail;with_reducible refine(cA.out _ _ y1 Ln Cn y2).mono ?_
  rintro e w6 ⟨rfl,hb⟩;replace HW:=Qh (HW.out.keep hb);replace HCC:=Qh (last_rdDb _ _ _ _ HCC.out hb);replace HB:=Qh (bstep HB.out hb lrf);replace hbk:=hbk.keep hb lrf;clear hb x1 x2 y1 y2 HN1 HN2 cA;go_wp2_with fail
 all_goals
  have HL2:=Qh (show(s.take N++(c++s.drop N)).length≤9223372036854775807 by simp only[List.length_append,List.length_take,List.length_drop];omega);have f:=cmt_cell j hj0 w6;rw[← HC.out]at f;have hba:=(Below.refl w6.heap.size w6).alloc lrf (.cells #[.string ⟨#[32,67,77,95,32,59,32]⟩,.string ⟨#[32,67,77,95,32,34,120,34,32,59,32]⟩,.string ⟨#[32,67,77,95,32,66,79,95,32,50,53,54,32,34,97,59,98,34,32,44,32,40,32,64,48,43,32,59,32]⟩,.string ⟨#[32,67,77,95,32,67,77,95,32,86,69,82,83,73,79,78,32,66,85,95,32,58,32,49,46,53,32,59,32,67,77,95,32,83,71,95,32,77,32,109,48,32,59,32]⟩] 9);replace HW:=Qh (HW.out.keep hba);replace HCC:=Qh (last_rdDb _ _ _ _ HCC.out hba);replace HB:=Qh (bstep HB.out hba lrf);replace hbk:=hbk.keep hba lrf;clear hba;generalize w6.alloc (.cells #[.string ⟨#[32,67,77,95,32,59,32]⟩,.string ⟨#[32,67,77,95,32,34,120,34,32,59,32]⟩,.string ⟨#[32,67,77,95,32,66,79,95,32,50,53,54,32,34,97,59,98,34,32,44,32,40,32,64,48,43,32,59,32]⟩,.string ⟨#[32,67,77,95,32,67,77,95,32,86,69,82,83,73,79,78,32,66,85,95,32,58,32,49,46,53,32,59,32,67,77,95,32,83,71,95,32,77,32,109,48,32,59,32]⟩] 9)=w8 at *;generalize w6.heap.size=k8 at *;with_reducible refine(cJ _).mono ?_
  rintro e w9 ⟨rfl,rfl⟩;clear cJ;go_upto_region 11 with fail
  refine wp_region_held_drew (S:=fun (_:World)=>True) (by kernel_rfl) trivial (fun hHeld=>?_);refine hT 0 ?_;try simp only[spt]
  refine hT 1 ?_;try simp only[spt]
  refine held_take 2 (v:=.string ⟨(s.take N).toArray⟩) rfl (by kernel_rfl) (by kernel_rfl) (by kernel_rfl) (fun _ _ _ h=>h) (by assumption) (Or.inl ⟨by rfl,fun w _=>by
   go_simp;rw[cut_front s N hN]⟩) ?_
  try simp only[spt]
  refine hT 3 ?_;try simp only[spt]
  refine held_take 4 (v:=.string ⟨(s.take N++c).toArray⟩) rfl (by kernel_rfl) (by kernel_rfl) (by kernel_rfl) (fun _ _ _ h=>h) (by assumption) (Or.inl ⟨by rfl,fun w _=>by
   go_simp;rw[if_neg (by omega)];rfl⟩) ?_
  try simp only[spt]
  refine hT 5 ?_;try simp only[spt]
  refine hT 6 ?_;try simp only[spt]
  refine held_take 7 (v:=.string ⟨(s.drop N).toArray⟩) rfl (by kernel_rfl) (by kernel_rfl) (by kernel_rfl) (fun _ _ _ h=>h) (by assumption) (Or.inl ⟨by rfl,fun w _=>by
   go_simp;rw[cut_back s N hN]⟩) ?_
  try simp only[spt]
  refine held_take 8 (v:=.string ⟨(s.take N++(c++s.drop N)).toArray⟩) rfl (by kernel_rfl) (by kernel_rfl) (by kernel_rfl) (fun _ _ _ h=>h) (by assumption) (Or.inl ⟨by rfl,fun w _=>by
   go_simp;rw[if_neg (by omega)];rw[str_cat,List.append_assoc]⟩) ?_
  try simp only[spt]
  have hdr:Below w9.heap.size w9 w9.drew:=(Below.refl _ _).drew;refine held_call2 9 13 rfl rfl (by kernel_rfl) (fun K hK=>?_) (fun K hK=>?_);case' refine_1=>
   go_simp;with_reducible refine(cR2.out HL2.out _ (HW.out.keep hdr)).mono ?_
   rintro e w10 ⟨C2,rfl,hC2,hb⟩;obtain⟨hD9,hD1⟩:=fdDb_shape (b:=0) hC2;refine hK.out _ _ trivial (fun hHeld=>?_);clear hK K;try simp only[spt]
   refine hT 10 ?_;try simp only[spt]
   refine hT 11 ?_;try simp only[spt]
   refine hT 12 ?_;try simp only[spt]
   have hb2:=hdr.trans hb;refine held_call 13 rfl (by kernel_rfl) (fun K hK=>?_);go_simp;refine hK.out _ _ trivial (fun hHeld=>?_);clear hK K;try simp only[spt]
   have hz:(w10.alloc (.cells zeroDb 32)).heap[w10.heap.size]? = some (.cells zeroDb 32):=heap_alloc_new w10 _;have hb3:Below w10.heap.size w10 ((w10.alloc (.cells zeroDb 32)).setRow w10.heap.size C2):=below_row ((Below.refl w10.heap.size w10).alloc lrf (.cells zeroDb 32)) lrf C2;refine held_call 14 rfl (by kernel_rfl) (fun K hK=>?_);refine step_storeR (cs:=C2) ⟨_,hz⟩ 32 (.tmp 15) (.tmp 75) (by rw[hD9];exact db_size) (by rw[hD9];rfl) hD1 ?_;refine hK.out _ _ trivial (fun hHeld=>?_);clear hK K;try simp only[spt]
   have hF:rdDb ((w10.alloc (.cells zeroDb 32)).setRow w10.heap.size C2) d' C2.toList:=fd_db (last_fdDb _ _ _ _ hC2 hb3);have hB2:Blk ((w10.alloc (.cells zeroDb 32)).setRow w10.heap.size C2) w10.heap.size C2:=Blk.row ⟨_,hz⟩ C2;have hb4:=bstep hb2 hb3 lrf;generalize (w10.alloc (.cells zeroDb 32)).setRow w10.heap.size C2=wz at *;generalize w10.heap.size=k15 at *;clear hz hb hb2 hb3 hC2
  case' refine_2=>
   go_simp;refine hK.out _ _ trivial (fun hHeld=>?_);clear hK K;try simp only[spt]
   have hz:(w9.alloc (.cells zeroDb 32)).drew.heap[w9.heap.size]? = some (.cells zeroDb 32):=heap_alloc_new w9 _;have hdz:=((Below.refl w9.heap.size w9).alloc lrf (.cells zeroDb 32)).drew;generalize (w9.alloc (.cells zeroDb 32)).drew=wa at *;refine held_call 9 rfl (by kernel_rfl) (fun K hK=>?_);go_simp;with_reducible refine(cR2.out HL2.out _ (HW.out.keep hdz)).mono ?_
   rintro e w10 ⟨C2,rfl,hC2,hb⟩;obtain⟨hD9,hD1⟩:=fdDb_shape (b:=0) hC2;refine hK.out _ _ trivial (fun hHeld=>?_);clear hK K;try simp only[spt]
   refine hT 10 ?_;try simp only[spt]
   refine hT 11 ?_;try simp only[spt]
   refine hT 12 ?_;try simp only[spt]
   have hz2:=kind_at hz hb;have hb2:=bstep hdz hb lrf;refine held_call 14 rfl (by kernel_rfl) (fun K hK=>?_);refine step_storeR (cs:=C2) ⟨_,hz2⟩ 32 (.tmp 15) (.tmp 75) (by rw[hD9];exact db_size) (by rw[hD9];rfl) hD1 ?_;refine hK.out _ _ trivial (fun hHeld=>?_);clear hK K;try simp only[spt]
   have hF:rdDb (w10.setRow w9.heap.size C2) d' C2.toList:=fd_db (apt_fdDbN 0 (by decide) (by decide) (by decide) (by decide) (by decide) _ _ _ _ w9.heap.size _ _ hC2 hz2 (by simp[World.setRow]) (fun b _ hne=>heap_setRow_other _ _ _ _ hne));have hB2:Blk (w10.setRow w9.heap.size C2) w9.heap.size C2:=Blk.row ⟨_,hz2⟩ C2;have hb4:=below_row hb2 (show w9.heap.size≤w9.heap.size from lrf) C2;generalize w10.setRow w9.heap.size C2=wz at *;generalize hk15:w9.heap.size=k15 at *;rw[← hk15]at hb4;clear hz hz2 hb hb2 hC2 hdz
  all_goals
   refine hT 15 ?_;try simp only[spt]
   refine wpAnyH_done (by kernel_rfl) ?_ _;replace HCC:=Qh (last_rdDb _ _ _ _ HCC.out hb4);replace HB:=Qh (bstep HB.out hb4 lrf);replace hbk:=hbk.keep hb4 lrf;have HF:=Qh hF;clear hF hb4 hdr HW f cR2;have hdw:Below wz.heap.size wz wz.drew:=(Below.refl _ _).drew;have hr1:=last_rdDb _ _ _ _ HCC.out hdw;go_wp2_with fail;refine wp_region_held_drew (S:=fun (w':World)=>Blk w' k5 C∧Blk w' k15 C2) (by kernel_rfl) ⟨hbk.keep (Below.refl _ _).drew lrf,hB2.keep (Below.refl _ _).drew lrf⟩ (fun hHeld=>?_);clear hbk hB2;refine hT 0 ?_;try simp only[spt]
   refine hT 1 ?_;try simp only[spt]
   refine held_take 2 (v:=.agg C) rfl (by kernel_rfl) (by kernel_rfl) (by kernel_rfl) (fun _ _ _ h=>h) (by assumption) (yields_loadSG (fun w h=>h.1) 32 (.tmp 7) hu (by rw[hC9];exact db_size) (by kernel_rfl)) ?_;try simp only[spt]
   refine held_take 4 (v:=.agg C2) rfl (by kernel_rfl) (by kernel_rfl) (by kernel_rfl) (fun _ _ _ h=>h) (by assumption) (yields_loadSG (fun w h=>h.2) 32 (.tmp 15) hu (by rw[hD9];exact db_size) (by kernel_rfl)) ?_;try simp only[spt]
   refine held_call 3 rfl (by kernel_rfl) (fun K hK=>?_);go_simp;with_reducible refine(cB1.out _ _ hr1).mono ?_
   rintro e wq ⟨E1,rfl,hE1,hb⟩;refine hK.out _ _ ⟨hHeld.1.keep hb lrf,hHeld.2.keep hb lrf⟩ (fun hHeld=>?_);clear hK K;try simp only[spt]
   replace HB:=Qh (bstep HB.out (hdw.trans hb) lrf);replace HF:=Qh (last_rdDb _ _ _ _ HF.out (hdw.trans hb));clear hb HCC hr1 hdw;refine held_call 5 rfl (by kernel_rfl) (fun K hK=>?_);go_simp;with_reducible refine(cB2.out _ _ HF.out).mono ?_
   rintro e wq ⟨E2,rfl,hE2,hb⟩;refine hK.out _ _ ⟨hHeld.1.keep hb lrf,hHeld.2.keep hb lrf⟩ (fun hHeld=>?_);clear hK K;try simp only[spt]
   replace HB:=Qh (bstep HB.out hb lrf);have hE1':=last_fdDbN _ _ _ _ _ hE1 hb;clear hb HF hE1;refine held_call 6 rfl (by kernel_rfl) (fun K hK=>?_);go_simp;with_reducible refine(cS.out _ _ _ (fd_db (fdDbN_fd hE1')) (fd_db (fdDbN_fd hE2))).mono ?_
   rintro e wq ⟨rfl,hb⟩;refine hK.out _ _ ⟨hHeld.1.keep hb lrf,hHeld.2.keep hb lrf⟩ (fun hHeld=>?_);clear hK K;try simp only[spt]
   replace HB:=Qh (bstep HB.out hb lrf);clear hb;refine hT 7 ?_;try simp only[spt]
   refine hT 8 ?_;try simp only[spt]
   refine wpAnyH_done (by kernel_rfl) ?_ _;go_wp2_with fail;go_ret;exact⟨rfl,HB.out⟩
theorem parsecomments_any (s:List UInt8) (hs:s.length≤9223372036854775807) (a b:Int) (ha:-9223372036854775808≤a∧a≤9223372036854775807) (hb:-9223372036854775808≤b∧b≤9223372036854775807) (w:World) (hW:FileW w) :
  Calls prog 3 #[.string ⟨s.toArray⟩,.int .i64 a,.int .i64 b] w fun e w'=>e=.returned (.bool true)∧Below w.heap.size w w':=by
 rcases read_cases s with ⟨T,x,hf⟩|⟨T,d,r,hw,hd,hl⟩
 ·refine parsecomments_no s hs a b ha hb false (fun h=>by cases h) (fun w hW=>(read6_bad s hs T x hf w hW).mono fun e w' h=>?_) w hW;exact⟨zeroDb,h.1,rfl,zeroDb_one,h.2⟩
 ·obtain⟨h1,h2,h3⟩:=file_of hw hd;by_cases h:s.length≤524288
  ·exact parsecomments_yes s h a b ha hb d h1 h2 h3 (comments_plain hw hd h) w hW
  ·refine parsecomments_no s hs a b ha hb true (fun _=>by omega) (fun w hW=>(read6_good s hs d h1 h2 h3 w hW).mono fun e w' h=>?_) w hW;obtain⟨C,g1,g2,g3⟩:=h;obtain⟨hC9,hC1⟩:=fdDb_shape (b:=0) g2;exact⟨C,g1,hC9,hC1,g3⟩
theorem parsecomments_str (s:ByteArray) (hs:s.size≤9223372036854775807) (a b:Int) (ha:-9223372036854775808≤a∧a≤9223372036854775807) (hb:-9223372036854775808≤b∧b≤9223372036854775807) (w:World) (hW:FileW w) :
  Calls prog 3 #[.string s,.int .i64 a,.int .i64 b] w fun e w'=>e=.returned (.bool true)∧Below w.heap.size w w':=by
 have e:(⟨s.data.toList.toArray⟩:ByteArray)=s:=(by cases s;simp);have h:=parsecomments_any s.data.toList (by rw[Array.length_toList];exact hs) a b ha hb w hW;rw[e]at h;exact h
end Go.Proofs.YtjgjckipfkkgiaaGreatDoor
