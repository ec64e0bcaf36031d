/-
  The parser's whole source: contract. (Printed by gen_prsq.py.)
-/
import Derived.Test.YtkblpaabknjckaaGreatDoorBaseD
import Derived.Test.YtkblpaabknjckaaGreatDoorPrsP
set_option maxHeartbeats 128000000
set_option linter.unusedVariables false
namespace Go.Proofs.YtkblpaabknjckaaGreatDoor
open Go.Proofs.Tryz
open Go.RowKit Go.Shelf
theorem nods_ty:SlTy prog 23 64 1 16:=SlTy.mk' .nilIface underlying23 (by kernel_rfl) rfl (by decide) (by decide)
theorem apt_nod {e:TypeId} (he:9≠e) (he2:89≠e) (he3:93≠e):Apt fdNodT e:=apt_fdNodT he he2 he3
def NPost (kp:Nat) (w:World) (R:PR (List NodeD)) (e:Ending) (w':World):Prop:=match R with
 | .ok l ts=>∃ (v:Value) (T:List (NodeD×Nat×Nat)),e=.returned v∧OwnRd w' w.heap.size 64 fdNodT 1 v T∧T.map Prod.fst=l∧Chn w.heap.size T w'.heap.size∧Only kp w w'
 | .bad no l c=>e=.panicked [{ v:=faultV no l c,recovered:=false }]∧Only kp w w'
theorem comm_ok2 {ts ts':List TokD} {x:Unit} (h:commentsR ts=.ok x ts') (hb:TsB ts):TsB ts'∧ts'.length≤ts.length:=comm_ok _ h hb
theorem pl_zero:(prog.info? 29).map (fun i=>(i.zero,i.size))=some (some (.agg #[.int .i64 0,.int .i64 0]),2):=by kernel_rfl
set_option maxRecDepth 100000 in theorem source_any (ts : List TokD) (hts : TsB ts) (kp : Nat) (w : World) (h : PAt w kp ts) (hLs : ∀ W, Only kp w W → PowTab W ∧ SentP W) :
  Calls prog 18 #[.pointer (some ⟨kp,0,none⟩)] w fun e w'=>NPost kp w (sourceR ts) e w':=by
 obtain⟨R,hR⟩:∃ R,R=sourceR ts:=⟨_,rfl⟩
 rw[← hR];unfold sourceR at hR;have HR:=Qh hR;clear hR;have hkw:=h.lt;have HL:=Qh hLs;have HO:=Qh (Only.of_below kp (Below.refl w.heap.size w));have HP:=Qh h;have hf0:=tk_f0;have hf1:=tk_f1;have hf2:=tk_f2;clear h hLs;have tsB:=hts;go_enter func18,ntmps18
 cases hX:commentsR ts with
 | bad no ln c=>
  have cc:=comments_any ts tsB.1 kp _ HP.out;rw[hX]at cc;unfold PPost at cc;have hr:=HR.out;rw[hX,PR.bind_bad]at hr;have HVR:=Qh hr;clear hr;go_wp2_with fail;(with_reducible refine cc.mono ?_);rintro e w9 ⟨rfl,ho⟩;have HO9:=Qh (HO.out.trans ho);clear ho cc;go_wp2_with fail;exact⟨rfl,by rw[HVR.out];exact⟨rfl,HO9.out⟩⟩
 | ok u0 ts1=>
  have cc:=comments_any ts tsB.1 kp _ HP.out;rw[hX]at cc;unfold PPost at cc;have hr:=HR.out;rw[hX,PR.bind_ok]at hr;have HR:=Qh hr;obtain⟨ht',hxx⟩:=comm_ok2 hX tsB;have ts1B:=ht';have HXX:=Qh hxx;clear hr ht' hxx tsB;go_wp2_with fail;(with_reducible refine cc.mono ?_);rintro e W1 ⟨rfl,ho,hp⟩;have HO:=Qh (HO.out.trans ho);have HP:=Qh hp;clear cc ho hp;have cs:=sees_any [86,69,82,83,73,79,78] ts1 ts1B.1.pos kp _ HP.out;obtain⟨KF,hKR,hKF⟩:∃ KF:List NodeD→List TokD→PR (List NodeD),R=(verR ts1).bind KF∧KF=fun l0 ts=>(mustR [66,85,95] ts).bind fun t ts=>(mustR [58] ts).bind fun _ ts=>
   (namsF ts.length [] ts).bind fun ns ts=>(commentsR ts).bind fun _ ts=>(mssF ts.length 0 (l0++[.sta ⟨t.line,t.col,ns⟩]) ts).bind fun l ts=>
   (tbsF ts.length l ts).bind fun l ts=>endR l ts:=⟨_,HR.out,rfl⟩
  have HKR:=Qh hKR;have HKF:=Qh hKF;clear hKR hKF;go_wp2_with fail;(with_reducible refine cs.mono ?_);rintro e W2 ⟨rfl,hb⟩;have HO:=Qh (HO.out.trans (Only.of_below kp hb));have HP:=Qh (HP.out.keep hb);have HSK:=Qh (fun h=>@sees_kind [86,69,82,83,73,79,78] ts1 h);have HVR:=Qh (show verR ts1=if seesB [86,69,82,83,73,79,78] ts1 then (nextR 3 ts1.tail).bind fun x ts'=>(commentsR ts').bind fun _ ts''=>.ok [.ver ⟨(headT ts1).line,(headT ts1).col,x.text⟩] ts'' else .ok [] ts1 from rfl);have HMU:=Qh (show mustR [86,69,82,83,73,79,78] ts1=if seesB [86,69,82,83,73,79,78] ts1 then .ok (headT ts1) ts1.tail else formR ts1 from rfl);generalize seesB [86,69,82,83,73,79,78] ts1=SB at *;clear cs hb;go_upto_if 10 with fail
  go_cut [3] (fun x ws=>∃ (tz:List TokD) (T:List (NodeD×Nat×Nat)),TsB tz∧R=KF (T.map Prod.fst) tz∧PAt ws kp tz∧Only kp w ws∧OwnRd ws w.heap.size 64 fdNodT 1 x T∧Chn w.heap.size T ws.heap.size∧T.length≤1)
  case first=>
   cases SB
   ·have HV:=Qh (show R=KF (List.map Prod.fst ([]:List (NodeD×Nat×Nat))) ts1 by rw[HKR.out,HVR.out];rfl);go_wp2_with fail;go_meet
    case rel=>exact⟨ts1,[],ts1B,HV.out,HP.out,HO.out,OwnRd.nil _ _ _ _ _,.nil HO.out.size,by simp⟩
   ·have HV:=Qh (show R=((nextR 3 ts1.tail).bind fun x ts'=>(commentsR ts').bind fun _ ts''=>PR.ok [NodeD.ver ⟨(headT ts1).line,(headT ts1).col,x.text⟩] ts'').bind KF by rw[HKR.out,HVR.out];rfl);have cm:=must_any [86,69,82,83,73,79,78] ts1 ts1B.1 kp _ HP.out;rw[show mustR [86,69,82,83,73,79,78] ts1=.ok (headT ts1) ts1.tail from HMU.out]at cm;unfold PPost tkV enTok at cm;have htB:=ts1B.tail (HSK.out rfl);go_wp2_with fail;(with_reducible refine cm.mono ?_);rintro e W3 ⟨rfl,ho,hp⟩;have HO:=Qh (HO.out.trans ho);have HP:=Qh hp;have HO3s:=HO.out.size;clear cm ho hp;generalize (headT ts1).line=L at *;generalize (headT ts1).col=C at *;generalize ts1.tail=ts2 at *;have hb1:Below W3.heap.size W3 (W3.alloc (.cells #[.int .i64 L,.int .i64 C] 29)):=(Below.refl _ _).alloc lrf _;go_upto_region 5 with (refine wpList_newS (Z:=#[.int .i64 0,.int .i64 0]) (cs:=#[.int .i64 L,.int .i64 C]) 29 (.tmp 4) (.tmp 13) pl_zero rfl (by simp[Value.oneCell']) ?_)
    have nb:=Blk.new W3 #[.int .i64 L,.int .i64 C] 29;have HO:=Qh (HO.out.trans (Only.of_below kp hb1));have HP:=Qh (HP.out.keep hb1);have hup:=underlying29;clear hb1;have hkkv:kp < W3.heap.size:=Nat.lt_of_lt_of_le hkw HO3s;generalize hkv:W3.heap.size=kv at *;generalize W3.alloc (.cells #[.int .i64 L,.int .i64 C] 29)=W4 at *;have HOd:=Qh (HO.out.trans (Only.of_below kp (Below.refl W4.heap.size W4).drew));have HPd:=Qh (HP.out.keep (Below.refl W4.heap.size W4).drew);have cn:=next_any 3 ts2 htB.1 kp W4.drew HPd.out;have nbd:Blk W4.drew kv #[.int .i64 L,.int .i64 C]:=nb;cases hX:nextR 3 ts2 with
    | bad no ln c=>
     rw[hX]at cn;unfold PPost at cn;have HVR:=Qh (show R=.bad no ln c by rw[HV.out,hX];rfl);clear hX;refine wp_region_held_drew (S:=(fun (w':World)=>w'.cell? ⟨kv,0,none⟩=some (.int .i64 L)∧w'.cell? ⟨kv,1,none⟩=some (.int .i64 C))) (by kernel_rfl) ⟨nbd.cell 0 _ rfl,nbd.cell 1 _ rfl⟩ (fun hHeld=>?_);refine held_take 0 (v:=?_) rfl (by kernel_rfl) (by kernel_rfl) (by kernel_rfl) (fun _ _ _ h=>h) (by assumption) ?_ ?_;rotate_left
     ·first|(refine Or.inr ⟨?_,?_⟩<;>rfl)|(refine Or.inl ⟨by rfl,?_⟩;intro w hSw;(try dsimp only at hSw);first|(obtain⟨hS0,hS1⟩:=hSw;go_simp;done)|(obtain⟨hS0,hS1⟩:=hSw;go_simp;with_reducible rfl)|(go_simp;done)|(go_simp;with_reducible rfl))
     try simp only[spt]
     refine held_take 1 (v:=?_) rfl (by kernel_rfl) (by kernel_rfl) (by kernel_rfl) (fun _ _ _ h=>h) (by assumption) ?_ ?_;rotate_left
     ·first|(refine Or.inr ⟨?_,?_⟩<;>rfl)|(refine Or.inl ⟨by rfl,?_⟩;intro w hSw;(try dsimp only at hSw);first|(obtain⟨hS0,hS1⟩:=hSw;go_simp;done)|(obtain⟨hS0,hS1⟩:=hSw;go_simp;with_reducible rfl)|(go_simp;done)|(go_simp;with_reducible rfl))
     try simp only[spt]
     refine held_take 2 (v:=?_) rfl (by kernel_rfl) (by kernel_rfl) (by kernel_rfl) (fun _ _ _ h=>h) (by assumption) ?_ ?_;rotate_left
     ·first|(refine Or.inr ⟨?_,?_⟩<;>rfl)|(refine Or.inl ⟨by rfl,?_⟩;intro w hSw;(try dsimp only at hSw);first|(obtain⟨hS0,hS1⟩:=hSw;go_simp;done)|(obtain⟨hS0,hS1⟩:=hSw;go_simp;with_reducible rfl)|(go_simp;done)|(go_simp;with_reducible rfl))
     try simp only[spt]
     refine held_call 3 rfl (by kernel_rfl) (fun K hK=>?_);go_simp;(with_reducible refine cn.mono ?_);rintro e W5 ⟨rfl,ho⟩;have HO9:=Qh (HOd.out.trans ho);clear ho cn;dsimp only;go_wp2_with fail;exact⟨rfl,by rw[HVR.out];exact⟨rfl,HO9.out⟩⟩
    | ok x ts3=>
     rw[hX]at cn;unfold PPost tkV enTok at cn;have hv2:R=((commentsR ts3).bind fun _ ts''=>PR.ok [NodeD.ver ⟨L,C,x.text⟩] ts'').bind KF:=(by rw[HV.out,hX];rfl);have HV2:=Qh hv2;obtain⟨h3B,-⟩:=next_takes _ _ _ _ hX htB;clear hX hv2;refine wp_region_held_drew (S:=(fun (w':World)=>w'.cell? ⟨kv,0,none⟩=some (.int .i64 L)∧w'.cell? ⟨kv,1,none⟩=some (.int .i64 C))) (by kernel_rfl) ⟨nbd.cell 0 _ rfl,nbd.cell 1 _ rfl⟩ (fun hHeld=>?_);refine held_take 0 (v:=?_) rfl (by kernel_rfl) (by kernel_rfl) (by kernel_rfl) (fun _ _ _ h=>h) (by assumption) ?_ ?_;rotate_left
     ·first|(refine Or.inr ⟨?_,?_⟩<;>rfl)|(refine Or.inl ⟨by rfl,?_⟩;intro w hSw;(try dsimp only at hSw);first|(obtain⟨hS0,hS1⟩:=hSw;go_simp;done)|(obtain⟨hS0,hS1⟩:=hSw;go_simp;with_reducible rfl)|(go_simp;done)|(go_simp;with_reducible rfl))
     try simp only[spt]
     refine held_take 1 (v:=?_) rfl (by kernel_rfl) (by kernel_rfl) (by kernel_rfl) (fun _ _ _ h=>h) (by assumption) ?_ ?_;rotate_left
     ·first|(refine Or.inr ⟨?_,?_⟩<;>rfl)|(refine Or.inl ⟨by rfl,?_⟩;intro w hSw;(try dsimp only at hSw);first|(obtain⟨hS0,hS1⟩:=hSw;go_simp;done)|(obtain⟨hS0,hS1⟩:=hSw;go_simp;with_reducible rfl)|(go_simp;done)|(go_simp;with_reducible rfl))
     try simp only[spt]
     refine held_take 2 (v:=?_) rfl (by kernel_rfl) (by kernel_rfl) (by kernel_rfl) (fun _ _ _ h=>h) (by assumption) ?_ ?_;rotate_left
     ·first|(refine Or.inr ⟨?_,?_⟩<;>rfl)|(refine Or.inl ⟨by rfl,?_⟩;intro w hSw;(try dsimp only at hSw);first|(obtain⟨hS0,hS1⟩:=hSw;go_simp;done)|(obtain⟨hS0,hS1⟩:=hSw;go_simp;with_reducible rfl)|(go_simp;done)|(go_simp;with_reducible rfl))
     try simp only[spt]
     refine held_call 3 rfl (by kernel_rfl) (fun K hK=>?_);go_simp;(with_reducible refine cn.mono ?_);rintro e W44 ⟨rfl,ho,hp⟩;have HO44:=Qh (HOd.out.trans ho);have HP44:=Qh hp;have hkvl:kv < W4.drew.heap.size:=nbd.lt;have nb44:Blk W44 kv #[.int .i64 L,.int .i64 C]:=by
      obtain⟨T9,h9⟩:=nbd;exact⟨T9,(ho.block kv hkvl (by simp;omega)).trans h9⟩
     have hb5:Below W44.heap.size W44 (W44.alloc (.cells #[.iface 31 (.agg #[.int .i64 L,.int .i64 C,.string ⟨x.text.toArray⟩])] 64)):=(Below.refl _ _).alloc lrf _;clear ho hp cn hkvl;clear hHeld;refine hK.out _ _ ?_ (fun hHeld=>?_)
     ·exact⟨nb44.cell 0 _ rfl,nb44.cell 1 _ rfl⟩
     clear hK K;try simp only[spt]
     refine held_take 4 (v:=?_) rfl (by kernel_rfl) (by kernel_rfl) (by kernel_rfl) (fun _ _ _ h=>h) (by assumption) ?_ ?_;rotate_left
     ·first|(refine Or.inr ⟨?_,?_⟩<;>rfl)|(refine Or.inl ⟨by rfl,?_⟩;intro w hSw;(try dsimp only at hSw);first|(obtain⟨hS0,hS1⟩:=hSw;go_simp;done)|(obtain⟨hS0,hS1⟩:=hSw;go_simp;with_reducible rfl)|(go_simp;done)|(go_simp;with_reducible rfl))
     try simp only[spt]
     refine held_take 5 (v:=?_) rfl (by kernel_rfl) (by kernel_rfl) (by kernel_rfl) (fun _ _ _ h=>h) (by assumption) ?_ ?_;rotate_left
     ·first|(refine Or.inr ⟨?_,?_⟩<;>rfl)|(refine Or.inl ⟨by rfl,?_⟩;intro w hSw;(try dsimp only at hSw);first|(obtain⟨hS0,hS1⟩:=hSw;go_simp;done)|(obtain⟨hS0,hS1⟩:=hSw;go_simp;with_reducible rfl)|(go_simp;done)|(go_simp;with_reducible rfl))
     try simp only[spt]
     refine held_take 6 (v:=?_) rfl (by kernel_rfl) (by kernel_rfl) (by kernel_rfl) (fun _ _ _ h=>h) (by assumption) ?_ ?_;rotate_left
     ·first|(refine Or.inr ⟨?_,?_⟩<;>rfl)|(refine Or.inl ⟨by rfl,?_⟩;intro w hSw;(try dsimp only at hSw);first|(obtain⟨hS0,hS1⟩:=hSw;go_simp;done)|(obtain⟨hS0,hS1⟩:=hSw;go_simp;with_reducible rfl)|(go_simp;done)|(go_simp;with_reducible rfl))
     try simp only[spt]
     refine held_call 7 rfl (by kernel_rfl) (fun K hK=>?_);go_simp;have nb45:=nb44.keep hb5 lrf;clear hHeld;refine hK.out _ _ ?_ (fun hHeld=>?_)
     ·exact⟨nb45.cell 0 _ rfl,nb45.cell 1 _ rfl⟩
     clear hK K;try simp only[spt]
     refine held_call 8 rfl (by kernel_rfl) (fun K hK=>?_);have hn45:=heap_alloc_new W44 (.cells #[.iface 31 (.agg #[.int .i64 L,.int .i64 C,.string ⟨x.text.toArray⟩])] 64);have HO45:=Qh (HO44.out.trans (Only.of_below kp hb5));have HP45:=Qh (HP44.out.keep hb5);have hs45:w.heap.size≤(W44.alloc (.cells #[.iface 31 (.agg #[.int .i64 L,.int .i64 C,.string ⟨x.text.toArray⟩])] 64)).heap.size:=HO45.out.size;clear hb5;generalize W44.alloc (.cells #[.iface 31 (.agg #[.int .i64 L,.int .i64 C,.string ⟨x.text.toArray⟩])] 64)=W45 at *;refine step_append_rd last_fdNodT nods_ty [] (NodeD.ver ⟨L,C,x.text⟩,w.heap.size,w.heap.size) (g:=W44.heap.size) (cells:=#[.iface 31 (.agg #[.int .i64 L,.int .i64 C,.string ⟨x.text.toArray⟩])]) (OwnRd.nil _ w.heap.size _ _ _) (Below.refl w.heap.size W45) hs45 (by simp) hn45 rfl rfl (by simp[Value.oneCell']) (apt_nod (by decide) (by decide) (by decide)) ?_;rintro v5 W46 hown5 hb6 hgr5 -;have HO6:=Qh (Only.low HO45.out hb6);have HP6:=Qh (PAt.low HP45.out hkw hb6);have OW6:=Qh hown5;have nb46:Blk W46 kv #[.int .i64 L,.int .i64 C]:=by
      obtain⟨T9,h9⟩:=nb45;exact⟨T9,(hgr5.block kv (gE h9) (by simp[Value.ownBlock])).trans h9⟩
     clear hown5 hb6 hgr5 hn45 hs45;clear hHeld;refine hK.out _ _ ?_ (fun hHeld=>?_)
     ·exact⟨nb46.cell 0 _ rfl,nb46.cell 1 _ rfl⟩
     clear hK K;try simp only[spt]
     refine held_take 9 (v:=?_) rfl (by kernel_rfl) (by kernel_rfl) (by kernel_rfl) (fun _ _ _ h=>h) (by assumption) ?_ ?_;rotate_left
     ·first|(refine Or.inr ⟨?_,?_⟩<;>rfl)|(refine Or.inl ⟨by rfl,?_⟩;intro w hSw;(try dsimp only at hSw);first|(obtain⟨hS0,hS1⟩:=hSw;go_simp;done)|(obtain⟨hS0,hS1⟩:=hSw;go_simp;with_reducible rfl)|(go_simp;done)|(go_simp;with_reducible rfl))
     try simp only[spt]
     refine wpAnyH_done (by kernel_rfl) ?_ _;have cc:=comments_any ts3 h3B.1 kp _ HP6.out;cases hY:commentsR ts3 with
     | bad no ln c=>
      rw[hY]at cc;unfold PPost at cc;have HVR:=Qh (show R=.bad no ln c by rw[HV2.out,hY];rfl);clear hY;go_wp2_with fail;(with_reducible refine cc.mono ?_);rintro e W9 ⟨rfl,ho⟩;have HO9:=Qh (HO6.out.trans ho);clear cc ho;go_wp2_with fail;exact⟨rfl,by rw[HVR.out];exact⟨rfl,HO9.out⟩⟩
     | ok y ts4=>
      rw[hY]at cc;unfold PPost at cc;have hv3:R=KF [NodeD.ver ⟨L,C,x.text⟩] ts4:=(by rw[HV2.out,hY];rfl);have HV3:=Qh hv3;obtain⟨h4B,-⟩:=comm_keeps _ _ _ hY h3B;clear hY hv3;go_wp2_with fail;(with_reducible refine cc.mono ?_);rintro e W9 ⟨rfl,ho,hp⟩;have HO9:=Qh (HO6.out.trans ho);have HP9:=Qh hp;have OW9:=Qh (OwnRd.only OW6.out HP6.out ho (by decide) (apt_nod (by decide) (by decide) (by decide)));have hs69:W46.heap.size≤W9.heap.size:=ho.size;clear cc ho hp;go_wp2_with fail;go_meet
      case rel=>exact⟨ts4,[(NodeD.ver ⟨L,C,x.text⟩,w.heap.size,w.heap.size)],h4B,HV3.out,HP9.out,HO9.out,OW9.out,(Chn.cons (x:=NodeD.ver ⟨L,C,x.text⟩) lrf lrf (.nil HO9.out.size)),by simp⟩
  case rest=>
  obtain⟨tsa,T0,tsaB,hRa,hpa,hoa,hown,hch,hT1⟩:=hcut;rw[HKF.out]at hRa;dsimp only at hRa;have HR:=Qh hRa;have HP:=Qh hpa;have HO:=Qh hoa;have OW:=Qh hown;have HCH:=Qh hch;clear hRa hpa hoa hown hch HSK HVR HMU HKR HKF KF;obtain⟨xa,xc,rfl,-⟩:=OW.out.shape;cases hX:mustR [66,85,95] tsa with
  | bad no ln c=>
   have cc:=must_any [66,85,95] tsa tsaB.1 kp _ HP.out;rw[hX]at cc;unfold PPost at cc;have hr:=HR.out;rw[hX,PR.bind_bad]at hr;have HVR:=Qh hr;clear hr;go_wp2_with fail;(with_reducible refine cc.mono ?_);rintro e w9 ⟨rfl,ho⟩;have HO9:=Qh (HO.out.trans ho);clear ho cc;go_wp2_with fail;exact⟨rfl,by rw[HVR.out];exact⟨rfl,HO9.out⟩⟩
  | ok t tsb=>
   have cc:=must_any [66,85,95] tsa tsaB.1 kp _ HP.out;rw[hX]at cc;unfold PPost at cc;unfold tkV enTok at cc;have hr:=HR.out;rw[hX,PR.bind_ok]at hr;have HR:=Qh hr;obtain⟨ht',hxx⟩:=must_ok hX tsaB;have tsbB:=ht';have HXX:=Qh hxx;clear hr ht' hxx tsaB;go_wp2_with fail;(with_reducible refine cc.mono ?_);rintro e X1 ⟨rfl,ho,hp⟩;have OW:=Qh (OwnRd.only OW.out HP.out ho (by decide) (apt_nod (by decide) (by decide) (by decide)));have HCH:=Qh (HCH.out.mono (ho).size);have HO:=Qh (HO.out.trans ho);have HP:=Qh hp;clear cc ho hp;obtain⟨C0,hC0⟩:∃ C,C=(⟨t.line,t.col,[]⟩:StaD).cells (.slice none 0 0):=⟨_,rfl⟩
   have HC0:=Qh hC0;have sC0:C0.size=3:=(by rw[hC0];rfl);have uC0:C0.all (·.oneCell')=true:=(by rw[hC0];exact StaD.cells_one _ _ _ _);clear hC0;go_upto_region 8 with (refine wpList_newS (Z:=zeroStaD) (cs:=C0) 34 (.tmp 5) (.tmp 28) (by rw[sC0];exact sta_zero) (by rw[sC0];rfl) uC0 ?_ (hy:=by rw[HC0.out];rfl))
   have hbn:Below X1.heap.size X1 (X1.alloc (.cells C0 34)):=(Below.refl _ _).alloc lrf _;have hkm:w.heap.size≤X1.heap.size:=HO.out.size;have hkkm:kp < X1.heap.size:=(by omega);have HC:=Qh (show(X1.alloc (.cells C0 34)).heap[X1.heap.size]? = some (.cells ((⟨t.line,t.col,[]⟩:StaD).cells (.slice none 0 0)) 34)by rw[← HC0.out];exact heap_alloc_new X1 _);have OW1:=OW;have HP1:=HP;have HOX:=HO;have HO:=Qh (HO.out.trans (Only.of_below kp hbn));have HP:=Qh (HP.out.keep hbn);have HO1:=Qh (Only.of_below kp hbn);clear hbn;generalize hkk:X1.heap.size=km at *;have HKK:=Qh hkk;clear hkk;generalize X1.alloc (.cells C0 34)=X2 at *;cases hX:mustR [58] tsb with
   | bad no ln c=>
    have cc:=must_any [58] tsb tsbB.1 kp _ HP.out;rw[hX]at cc;unfold PPost at cc;have hr:=HR.out;rw[hX,PR.bind_bad]at hr;have HVR:=Qh hr;clear hr;go_wp2_with fail;(with_reducible refine cc.mono ?_);rintro e w9 ⟨rfl,ho⟩;have HO9:=Qh (HO.out.trans ho);clear ho cc;go_wp2_with fail;exact⟨rfl,by rw[HVR.out];exact⟨rfl,HO9.out⟩⟩
   | ok tktsc tsc=>
    have cc:=must_any [58] tsb tsbB.1 kp _ HP.out;rw[hX]at cc;unfold PPost at cc;have hr:=HR.out;rw[hX,PR.bind_ok]at hr;have HR:=Qh hr;obtain⟨ht',hxx⟩:=must_ok hX tsbB;have tscB:=ht';have HXX:=Qh hxx;clear hr ht' hxx tsbB;go_wp2_with fail;(with_reducible refine cc.mono ?_);rintro e X3 ⟨rfl,ho,hp⟩;have HC:=Qh (kind_only HC.out (by omega) ho);have HO1:=Qh (HO1.out.trans ho);have HO:=Qh (HO.out.trans ho);have HP:=Qh hp;clear cc ho hp;obtain⟨KF,hKR,hKF⟩:∃ KF:List (List UInt8)→List TokD→PR (List NodeD),R=(namsF tsc.length [] tsc).bind KF∧KF=fun ns ts=>(commentsR ts).bind fun _ ts=>(mssF ts.length 0 (T0.map Prod.fst++[.sta ⟨t.line,t.col,ns⟩]) ts).bind fun l ts=>(tbsF ts.length l ts).bind fun l ts=>endR l ts:=⟨_,HR.out,rfl⟩
    have HKR:=Qh hKR;have HKF:=Qh hKF;clear hKR hKF HR;go_wp2_with fail;go_loopw [] (fun wr=>∃ (l:List (List UInt8)) (v:Value) (tz:List TokD) (g:Nat),TsB tz∧tz.length≤g∧l.length+tz.length≤4000000∧R=(namsF g l tz).bind KF∧PAt wr kp tz∧Only kp X1 wr∧wr.heap[km]? = some (.cells ((⟨t.line,t.col,[]⟩:StaD).cells (v)) 34)∧Owns wr km 9 1 enTx v l) (fun wr=>cntP wr kp)
    case atStart=>exact⟨[],_,tsc,tsc.length,tscB,lrf,by have:=tscB.2.2;simpa using this,HKR.out,HP.out,HO1.out,HC.out,Owns.nil _ _ _ _ _⟩
    case round=>
     obtain⟨l,v,tz,g,htz,hg,hlb,hRz,hpz,hoz,hcz,hown⟩:=hrel;have hpos:=htz.1.pos;obtain⟨g',rfl⟩:∃ g',g=g' + 1:=⟨g - 1,by omega⟩
     have cm:=named_any tz hpos kp wr hpz;have HRz:=Qh (show R=(if namedB tz then (nameR tz).bind fun nm ts'=>namsF g' (l++[nm]) ts' else .ok l tz:PR (List (List UInt8))).bind KF from hRz);clear hRz;generalize namedB tz=SB at *;have HOz:=Qh hoz;have HCz:=Qh hcz;have HOW:=Qh hown;have HPz:=Qh hpz;have HCN:=Qh (PAt.cnt hpz);clear hpz hoz hcz hown;obtain⟨av,cv,rfl,-⟩:=HOW.out.shape;go_wp2_with fail;(with_reducible refine cm.mono ?_);rintro e W40 ⟨rfl,hb⟩;have HOe:=Qh (HOz.out.trans (Only.of_below kp hb));have HPe:=Qh (HPz.out.keep hb);have HCe:=Qh (kind_at HCz.out hb);have HOWN:=Qh (HOW.out.keep hb lrf);clear cm hb;cases SB
     case true=>
      have HV:=Qh (show R=((nameR tz).bind fun nm ts'=>namsF g' (l++[nm]) ts').bind KF from HRz.out);have c2:=Blk.cell ⟨_,HCe.out⟩ 2 (.slice av l.length cv) rfl;have r2:=Blk.free ⟨_,HCe.out⟩ 2;have HOd:=Qh (HOe.out.trans (Only.of_below kp (Below.refl W40.heap.size W40).drew));have HPd:=Qh (HPe.out.keep (Below.refl W40.heap.size W40).drew);have cn:=name_any tz htz.1 (Nat.le_trans htz.head (by decide)) kp W40.drew HPd.out;cases hX:nameR tz with
      | bad no ln c=>
       rw[hX]at cn;unfold PPost at cn;have HVR:=Qh (show R=.bad no ln c by rw[HV.out,hX];rfl);clear hX;go_wp2_with fail;refine wp_region_heldL 7 (fun (w':World)=>w'.cell? ⟨km,2,none⟩=some (.slice av l.length cv)) (by kernel_rfl) c2 (fun hHeld=>?_);refine hL 0 ?_;try simp only[spt]
       refine hL 1 ?_;try simp only[spt]
       refine hL 2 ?_;try simp only[spt]
       refine heldL_call 3 rfl (by kernel_rfl) (fun K hK=>?_);go_simp;(with_reducible refine cn.mono ?_);rintro e W41 ⟨rfl,ho⟩;have HO9:=Qh ((HOX.out.trans HOd.out).trans ho);clear ho cn;dsimp only;go_wp2_with fail;exact⟨rfl,by rw[HVR.out];exact⟨rfl,HO9.out⟩⟩
      | ok nm tzu=>
       rw[hX]at cn;unfold PPost at cn;have hr:=HV.out;rw[hX,PR.bind_ok]at hr;have HVR:=Qh hr;obtain⟨hub,hult⟩:=name_takes _ _ _ hX htz;clear hr hX;go_wp2_with fail;refine wp_region_heldL 7 (fun (w':World)=>w'.cell? ⟨km,2,none⟩=some (.slice av l.length cv)) (by kernel_rfl) c2 (fun hHeld=>?_);refine hL 0 ?_;try simp only[spt]
       refine hL 1 ?_;try simp only[spt]
       refine hL 2 ?_;try simp only[spt]
       refine heldL_call 3 rfl (by kernel_rfl) (fun K hK=>?_);go_simp;(with_reducible refine cn.mono ?_);rintro e W41 ⟨rfl,ho,hp⟩;have HC41:=Qh (kind_only (W:=W40.drew) HCe.out (by omega) ho);have HO41:=Qh (HOd.out.trans ho);have HP41:=Qh hp;have HW41:=Qh (Owns.only (W:=W40.drew) (HOWN.out.keep (Below.refl W40.heap.size W40).drew lrf) hkkm ho);have c2b:=Blk.cell ⟨_,HC41.out⟩ 2 (.slice av l.length cv) rfl;have hb5:Below W41.heap.size W41 (W41.alloc (.cells #[.string ⟨nm.toArray⟩] 9)):=(Below.refl _ _).alloc lrf _;clear cn ho hp;clear hHeld;refine hK.out _ _ ?_ (fun hHeld=>?_)
       ·exact c2b
       clear hK K;try simp only[spt]
       refine heldL_call 4 rfl (by kernel_rfl) (fun K hK=>?_);go_simp;clear hHeld;refine hK.out _ _ ?_ (fun hHeld=>?_)
       ·exact cell_keep' c2b hb5
       clear hK K;try simp only[spt]
       refine heldL_call 5 rfl (by kernel_rfl) (fun K hK=>?_);have HC42:=Qh (kind_at HC41.out hb5);have HO42:=Qh (HO41.out.trans (Only.of_below kp hb5));have HP42:=Qh (HP41.out.keep hb5);have HW42:=Qh (HW41.out.keep hb5 lrf);have hn42:=heap_alloc_new W41 (.cells #[.string ⟨nm.toArray⟩] 9);have hs42:km≤(W41.alloc (.cells #[.string ⟨nm.toArray⟩] 9)).heap.size:=by
        have:=(gE HC42.out)
        omega
       clear hb5;generalize W41.alloc (.cells #[.string ⟨nm.toArray⟩] 9)=W42 at *;refine step_append_elem (en:=enTx) txs_ty l nm (g:=W41.heap.size) HW42.out (Below.refl km W42) hs42 (by omega) hn42 ?_ (hone:=by simp[enTx,Value.oneCell']);rintro v5 w5 hown5 hb6 hgr5 -;obtain⟨a5,n5,c5,hv5⟩:∃ a n c,v5=.slice a n c:=by obtain⟨a5,c5,e,-⟩:=hown5.shape;exact⟨_,_,_,e⟩
       subst hv5;have HC5:=Qh (heap_grown2 HC42.out HW42.out (by decide) hgr5);have HO5:=Qh (Only.low HO42.out (hb6.mono (Nat.le_of_eq HKK.out)));have HP5:=Qh (PAt.low HP42.out hkkm hb6);have hcv5:=Blk.cell ⟨_,HC5.out⟩ 2 (.slice av l.length cv) rfl;have hfr5:=Blk.free ⟨_,HC5.out⟩ 2;clear hb6 hgr5 hn42 hs42;clear hHeld;refine hK.out _ _ ?_ (fun hHeld=>?_)
       ·exact hcv5
       clear hK K;try simp only[spt]
       refine hL 6 ?_;try simp only[spt]
       refine heldL_last 7 rfl (by kernel_rfl) (by kernel_rfl) (fun K hK=>?_);go_simp;refine hK.out _ _ ?_;clear hK K;try simp only[spt]
       refine wpAnyL_done (by kernel_rfl) ?_ _;have HC6:=Qh (set_at HC5.out 2 (.slice a5 n5 c5));have HO6:=Qh (Only.new HO5.out km (Nat.le_of_eq HKK.out) 2 (.slice a5 n5 c5));have HP6:=Qh (PAt.set HP5.out hkkm 2 (.slice a5 n5 c5));have OW6:=Qh (hown5.apt (by decide) HC5.out (fun b _ hne=>Below.heap_setCell _ ⟨km,2,none⟩ (.slice a5 n5 c5) b hne));have HCN6:=Qh (PAt.cnt HP6.out);clear hown5 hcv5 hfr5 c2 r2 c2b;go_wp2_with fail;go_roundw;case rel=>exact⟨l++[nm],_,tzu,g',hub,by omega,by simp only[List.length_append,List.length_cons,List.length_nil];omega,HVR.out,HP6.out,HO6.out,HC6.out,OW6.out⟩
       case measure=>rw[HCN6.out,HCN.out];omega
     case false=>
      have hv1:R=KF l tz:=HRz.out;rw[HKF.out]at hv1;dsimp only at hv1;have HR:=Qh hv1;clear hv1;have tzB:=htz;have HO:=Qh (HOX.out.trans HOe.out);have HP:=HPe;have HXe:=Qh (OwnRd.only OW1.out HP1.out HOe.out (by decide) (apt_nod (by decide) (by decide) (by decide)));have hs40:km≤W40.heap.size:=(by have:=(gE HCe.out);omega);have hsw40:w.heap.size≤W40.heap.size:=HO.out.size;obtain⟨CC,hCC⟩:∃ C,C=(⟨t.line,t.col,l⟩:StaD).cells (.slice av l.length cv):=⟨_,rfl⟩
      have hce:W40.heap[km]? = some (.cells CC 34):=(by rw[hCC];exact HCe.out);have sCC:CC.size=3:=(by rw[hCC];rfl);have hfn:fdNodT W40 (NodeD.sta ⟨t.line,t.col,l⟩,km,W40.heap.size) (#[Value.iface 34 (.agg CC)]:Array Value).toList:=⟨CC,rfl,.slice av l.length cv,by rw[hCC],HOWN.out,fun k hk=>(HOWN.out.lt k hk).2⟩
      have HCH0:=HCH;have HFN:=Qh hfn;have bks:Blk W40 km CC:=⟨_,hce⟩
      have huS:=underlying34;clear hce hCC hfn;go_wp2_with (first|(refine wpList_loadS bks 34 (.tmp 5) huS (by rw[sCC];exact sta_size) ?_)|(at_builtin;go_loud (refine wpList_append_rd last_fdNodT nods_ty T0 (NodeD.sta ⟨t.line,t.col,l⟩,km,W40.heap.size) HXe.out (Below.refl w.heap.size W40) hsw40 (by omega) HFN.out rfl (by simp[Value.oneCell']) (apt_nod (by decide) (by decide) (by decide)) ?_)))
      rintro v5 W43 hown5 hb5 hgr5;have HCH:=Qh ((HCH0.out.snoc (NodeD.sta ⟨t.line,t.col,l⟩) lrf hs40).mono hgr5.size);have HO:=Qh (Only.low HO.out hb5);have HP:=Qh (PAt.low HP.out hkw hb5);have OW:=Qh hown5;have hT2:(T0++[(NodeD.sta ⟨t.line,t.col,l⟩,km,W40.heap.size)]).length≤2:=(by rw[List.length_append,List.length_cons,List.length_nil];omega);have HR:=Qh (show R=(commentsR tz).bind fun _ ts=>(mssF ts.length 0 ((T0++[(NodeD.sta ⟨t.line,t.col,l⟩,km,W40.heap.size)]).map Prod.fst) ts).bind fun l ts=>(tbsF ts.length l ts).bind fun l ts=>endR l ts by rw[List.map_append];exact HR.out);clear hown5 hb5 hgr5 bks;generalize T0++[(NodeD.sta ⟨t.line,t.col,l⟩,km,W40.heap.size)]=T1 at *;obtain⟨ya,yc,rfl,-⟩:=OW.out.shape;cases hX:commentsR tz with
      | bad no ln c=>
       have cc:=comments_any tz tzB.1 kp _ HP.out;rw[hX]at cc;unfold PPost at cc;have hr:=HR.out;rw[hX,PR.bind_bad]at hr;have HVR:=Qh hr;clear hr;go_wp2_with fail;(with_reducible refine cc.mono ?_);rintro e w9 ⟨rfl,ho⟩;have HO9:=Qh (HO.out.trans ho);clear ho cc;go_wp2_with fail;exact⟨rfl,by rw[HVR.out];exact⟨rfl,HO9.out⟩⟩
      | ok u1 tsd=>
       have cc:=comments_any tz tzB.1 kp _ HP.out;rw[hX]at cc;unfold PPost at cc;have hr:=HR.out;rw[hX,PR.bind_ok]at hr;have HR:=Qh hr;obtain⟨ht',hxx⟩:=comm_ok2 hX tzB;have tsdB:=ht';have HXX:=Qh hxx;clear hr ht' hxx tzB;go_wp2_with fail;(with_reducible refine cc.mono ?_);rintro e X5 ⟨rfl,ho,hp⟩;have OW:=Qh (OwnRd.only OW.out HP.out ho (by decide) (apt_nod (by decide) (by decide) (by decide)));have HCH:=Qh (HCH.out.mono (ho).size);have HO:=Qh (HO.out.trans ho);have HP:=Qh hp;clear cc ho hp;obtain⟨KG,hKR,hKG⟩:∃ KG:List NodeD→List TokD→PR (List NodeD),R=(mssF tsd.length 0 (T1.map Prod.fst) tsd).bind KG∧KG=fun l ts=>(tbsF ts.length l ts).bind fun l ts=>endR l ts:=⟨_,HR.out,rfl⟩
       have HKR:=Qh hKR;have HKG:=Qh hKG;clear hKR hKG HR HRz;go_wp2_with fail;go_loopw [3,6] (fun lv nv wr=>∃ (T:List (NodeD×Nat×Nat)) (tz:List TokD) (g n:Nat),nv=.int .i64 (n:Nat)∧n≤512∧TsB tz∧tz.length≤g∧T.length≤n+2∧R=(mssF g n (T.map Prod.fst) tz).bind KG∧PAt wr kp tz∧Only kp w wr∧OwnRd wr w.heap.size 64 fdNodT 1 lv T∧Chn w.heap.size T wr.heap.size) (fun _ _ wr=>cntP wr kp)
       case atStart=>exact⟨T1,tsd,tsd.length,0,rfl,by decide,tsdB,lrf,hT2,HKR.out,HP.out,HO.out,OW.out,HCH.out⟩
       case round=>
        obtain⟨T,tz,g,n,rfl,hn,htz,hg,hT,hRz,hpz,hoz,hown,hch⟩:=hrel;have hpos:=htz.1.pos;obtain⟨g',rfl⟩:∃ g',g=g' + 1:=⟨g - 1,by omega⟩
        have cm:=sees_any [66,79,95] tz hpos kp wr hpz;have HRz:=Qh (show R=(if seesB [66,79,95] tz then (if n=512 then wrongR 5 tz else (messageR tz).bind fun m ts'=>(commentsR ts').bind fun _ ts''=>mssF g' (n+1) (T.map Prod.fst++[.msg m]) ts'') else .ok (T.map Prod.fst) tz:PR (List NodeD)).bind KG from hRz);clear hRz;generalize seesB [66,79,95] tz=SB at *;have HPz:=Qh hpz;have HOz:=Qh hoz;have HOW:=Qh hown;have HCH:=Qh hch;have HCN:=Qh (PAt.cnt hpz);clear hpz hoz hown hch;obtain⟨av,cv,rfl,-⟩:=HOW.out.shape;go_wp2_with fail;(with_reducible refine cm.mono ?_);rintro e W60 ⟨rfl,hb⟩;have HOe:=Qh (HOz.out.trans (Only.of_below kp hb));have HPe:=Qh (HPz.out.keep hb);have HOWN:=Qh (HOW.out.keep last_fdNodT hb);have HCHe:=Qh (HCH.out.mono hb.size);clear cm hb;cases SB
        case true=>
         by_cases h512:n=512
         ·have hv1:R=.bad 5 (headT tz).line (headT tz).col:=by
           rw[HRz.out,if_pos rfl,if_pos h512];rfl
          have HV:=Qh hv1;clear hv1;have cw:=wrong_any 5 tz hpos kp _ HPe.out;subst h512;go_wp2_with fail;(with_reducible refine cw.mono ?_);rintro e W61 ⟨rfl,hb⟩;have HO9:=Qh (HOe.out.trans (Only.of_below kp hb));clear cw hb;go_wp2_with fail;exact⟨rfl,by rw[HV.out];exact⟨rfl,HO9.out⟩⟩
         ·have hv1:R=((messageR tz).bind fun m ts'=>(commentsR ts').bind fun _ ts''=>mssF g' (n+1) (T.map Prod.fst++[.msg m]) ts'').bind KG:=by
           rw[HRz.out,if_pos rfl,if_neg h512]
          have HV:=Qh hv1;clear hv1;have h512i:((n:Int) == 512)=false:=bN (by omega);have cn:=parmsg_any tz htz kp W60 HPe.out (fun W hW=>HL.out W (HOe.out.trans hW));cases hX:messageR tz with
          | bad no ln c=>
           rw[hX]at cn;unfold MPost at cn;have hr:=HV.out;rw[hX,PR.bind_bad,PR.bind_bad]at hr;have HVR:=Qh hr;clear hr hX;go_wp2_with fail;(with_reducible refine cn.mono ?_);rintro e W61 ⟨rfl,ho⟩;have HO9:=Qh (HOe.out.trans ho);clear cn ho;go_wp2_with fail;exact⟨rfl,by rw[HVR.out];exact⟨rfl,HO9.out⟩⟩
          | ok m tzu=>
           rw[hX]at cn;unfold MPost at cn;have hr:=HV.out;rw[hX,PR.bind_ok]at hr;have HVR:=Qh hr;obtain⟨hub,hult⟩:=message_takes _ _ _ hX htz;clear hr hX;go_wp2_with fail;(with_reducible refine cn.mono ?_);rintro e W61 ⟨C6,rfl,hfd,ho,hp⟩;have HO1:=Qh (HOe.out.trans ho);have HP1:=Qh hp;have OW1:=Qh (OwnRd.only HOWN.out HPe.out ho (by decide) (apt_nod (by decide) (by decide) (by decide)));have hs1:w.heap.size≤W61.heap.size:=HO1.out.size;have HCH1:=Qh (HCHe.out.snoc (NodeD.msg m) lrf ho.size);have HFD:=Qh (show fdNodT W61 (NodeD.msg m,W60.heap.size,W61.heap.size) (#[Value.iface 72 (.agg C6)]:Array Value).toList from ⟨C6,rfl,hfd⟩);clear cn ho hp hfd;go_wp2_with (at_builtin;go_loud (refine wpList_append_rd last_fdNodT nods_ty T (NodeD.msg m,W60.heap.size,W61.heap.size) OW1.out (Below.refl w.heap.size W61) hs1 (by omega) HFD.out rfl (by simp[Value.oneCell']) (apt_nod (by decide) (by decide) (by decide)) ?_))
           rintro v5 W62 hown5 hb5 hgr5;have HCH2:=Qh (HCH1.out.mono hgr5.size);have HO2:=Qh (Only.low HO1.out hb5);have HP2:=Qh (PAt.low HP1.out hkw hb5);have OW2:=Qh hown5;have cc:=comments_any tzu hub.1 kp _ HP2.out;obtain⟨a5,n5,c5,hv5⟩:∃ a n c,v5=.slice a n c:=by obtain⟨a5,c5,e,-⟩:=OW2.out.shape;exact⟨_,_,_,e⟩
           subst hv5;clear hown5 hb5 hgr5;cases hY:commentsR tzu with
           | bad no ln c=>
            rw[hY]at cc;unfold PPost at cc;have hr:=HVR.out;rw[hY,PR.bind_bad,PR.bind_bad]at hr;have HV9:=Qh hr;clear hr hY;go_wp2_with fail;(with_reducible refine cc.mono ?_);rintro e W69 ⟨rfl,ho⟩;have HO9:=Qh (HO2.out.trans ho);clear cc ho;go_wp2_with fail;exact⟨rfl,by rw[HV9.out];exact⟨rfl,HO9.out⟩⟩
           | ok uu tzv=>
            rw[hY]at cc;unfold PPost at cc;have hr:=HVR.out;rw[hY,PR.bind_ok]at hr;have HV9:=Qh hr;obtain⟨hvb,hvl⟩:=comm_keeps _ _ _ hY hub;clear hr hY;go_wp2_with fail;(with_reducible refine cc.mono ?_);rintro e W69 ⟨rfl,ho,hp⟩;have HO9:=Qh (HO2.out.trans ho);have HP9:=Qh hp;have OW9:=Qh (OwnRd.only OW2.out HP2.out ho (by decide) (apt_nod (by decide) (by decide) (by decide)));have HCH9:=Qh (HCH2.out.mono ho.size);have HCN9:=Qh (PAt.cnt hp);clear cc ho hp;go_wp2_with fail;go_roundw;case rel=>exact⟨T++[(NodeD.msg m,W60.heap.size,W61.heap.size)],tzv,g',n+1,by go_num,by omega,hvb,by omega,by simp only[List.length_append,List.length_cons,List.length_nil];omega,by rw[List.map_append];exact HV9.out,HP9.out,HO9.out,OW9.out,HCH9.out⟩
            case measure=>rw[HCN9.out,HCN.out];omega
        case false=>
         have hv1:R=KG (T.map Prod.fst) tz:=HRz.out;rw[HKG.out]at hv1;dsimp only at hv1;have HR:=Qh hv1;have hTb:T.length≤514:=(by omega);have tzb3:=htz.2.2;clear hv1 HRz;go_wp2_with fail;go_loopw [3] (fun lv wr=>∃ (T:List (NodeD×Nat×Nat)) (tz:List TokD) (g:Nat),TsB tz∧tz.length≤g∧T.length+tz.length≤4001000∧R=((tbsF g (T.map Prod.fst) tz).bind fun l ts=>endR l ts)∧PAt wr kp tz∧Only kp w wr∧OwnRd wr w.heap.size 64 fdNodT 1 lv T∧Chn w.heap.size T wr.heap.size) (fun _ wr=>cntP wr kp)
         case atStart=>exact⟨T,tz,tz.length,htz,lrf,by omega,HR.out,HPe.out,HOe.out,HOWN.out,HCHe.out⟩
         case round=>
          clear HPz HOz HOW HCH HCN HOe HPe HOWN HCHe HR hpos hT hTb tzb3;obtain⟨T,tz,g,htz,hg,hT,hRz,hpz,hoz,hown,hch⟩:=hrel;have hpos:=htz.1.pos;obtain⟨g',rfl⟩:∃ g',g=g' + 1:=⟨g - 1,by omega⟩
          have cm:=sees_any [86,65,76,95] tz hpos kp wr hpz;have HRz:=Qh (show R=(if seesB [86,65,76,95] tz then (tableR tz).bind fun m ts'=>(commentsR ts').bind fun _ ts''=>tbsF g' (T.map Prod.fst++[.tab m]) ts'' else .ok (T.map Prod.fst) tz:PR (List NodeD)).bind fun l ts=>endR l ts from hRz);clear hRz;generalize seesB [86,65,76,95] tz=SB at *;have HPz:=Qh hpz;have HOz:=Qh hoz;have HOW:=Qh hown;have HCH:=Qh hch;have HCN:=Qh (PAt.cnt hpz);clear hpz hoz hown hch;obtain⟨av,cv,rfl,-⟩:=HOW.out.shape;go_wp2_with fail;(with_reducible refine cm.mono ?_);rintro e W80 ⟨rfl,hb⟩;have HOe:=Qh (HOz.out.trans (Only.of_below kp hb));have HPe:=Qh (HPz.out.keep hb);have HOWN:=Qh (HOW.out.keep last_fdNodT hb);have HCHe:=Qh (HCH.out.mono hb.size);clear cm hb;cases SB
          case true=>
           have HV:=Qh (show R=((tableR tz).bind fun m ts'=>(commentsR ts').bind fun _ ts''=>tbsF g' (T.map Prod.fst++[.tab m]) ts'').bind fun l ts=>endR l ts from HRz.out);clear HRz;have cn:=partab_any tz htz kp W80 HPe.out (fun W hW=>HL.out W (HOe.out.trans hW));cases hX:tableR tz with
           | bad no ln c=>
            rw[hX]at cn;unfold TPost at cn;have hr:=HV.out;rw[hX,PR.bind_bad,PR.bind_bad]at hr;have HVR:=Qh hr;clear hr hX;go_wp2_with fail;(with_reducible refine cn.mono ?_);rintro e W81 ⟨rfl,ho⟩;have HO9:=Qh (HOe.out.trans ho);clear cn ho;go_wp2_with fail;exact⟨rfl,by rw[HVR.out];exact⟨rfl,HO9.out⟩⟩
           | ok m tzu=>
            rw[hX]at cn;unfold TPost at cn;have hr:=HV.out;rw[hX,PR.bind_ok]at hr;have HVR:=Qh hr;obtain⟨hub,hult⟩:=table_takes _ _ _ hX htz;clear hr hX;go_wp2_with fail;(with_reducible refine cn.mono ?_);rintro e W81 ⟨C6,rfl,hfd,ho,hp⟩;have HO1:=Qh (HOe.out.trans ho);have HP1:=Qh hp;have OW1:=Qh (OwnRd.only HOWN.out HPe.out ho (by decide) (apt_nod (by decide) (by decide) (by decide)));have hs1:w.heap.size≤W81.heap.size:=HO1.out.size;have HCH1:=Qh (HCHe.out.snoc (NodeD.tab m) lrf ho.size);have HFD:=Qh (show fdNodT W81 (NodeD.tab m,W80.heap.size,W81.heap.size) (#[Value.iface 76 (.agg C6)]:Array Value).toList from ⟨C6,rfl,hfd⟩);clear cn ho hp hfd;go_wp2_with (at_builtin;go_loud (refine wpList_append_rd last_fdNodT nods_ty T (NodeD.tab m,W80.heap.size,W81.heap.size) OW1.out (Below.refl w.heap.size W81) hs1 (by omega) HFD.out rfl (by simp[Value.oneCell']) (apt_nod (by decide) (by decide) (by decide)) ?_))
            rintro v5 W82 hown5 hb5 hgr5;have HCH2:=Qh (HCH1.out.mono hgr5.size);have HO2:=Qh (Only.low HO1.out hb5);have HP2:=Qh (PAt.low HP1.out hkw hb5);have OW2:=Qh hown5;have cc:=comments_any tzu hub.1 kp _ HP2.out;obtain⟨a5,n5,c5,hv5⟩:∃ a n c,v5=.slice a n c:=by obtain⟨a5,c5,e,-⟩:=OW2.out.shape;exact⟨_,_,_,e⟩
            subst hv5;clear hown5 hb5 hgr5;cases hY:commentsR tzu with
            | bad no ln c=>
             rw[hY]at cc;unfold PPost at cc;have hr:=HVR.out;rw[hY,PR.bind_bad,PR.bind_bad]at hr;have HV9:=Qh hr;clear hr hY;go_wp2_with fail;(with_reducible refine cc.mono ?_);rintro e W89 ⟨rfl,ho⟩;have HO9:=Qh (HO2.out.trans ho);clear cc ho;go_wp2_with fail;exact⟨rfl,by rw[HV9.out];exact⟨rfl,HO9.out⟩⟩
            | ok uu tzv=>
             rw[hY]at cc;unfold PPost at cc;have hr:=HVR.out;rw[hY,PR.bind_ok]at hr;have HV9:=Qh hr;obtain⟨hvb,hvl⟩:=comm_keeps _ _ _ hY hub;clear hr hY;go_wp2_with fail;(with_reducible refine cc.mono ?_);rintro e W89 ⟨rfl,ho,hp⟩;have HO9:=Qh (HO2.out.trans ho);have HP9:=Qh hp;have OW9:=Qh (OwnRd.only OW2.out HP2.out ho (by decide) (apt_nod (by decide) (by decide) (by decide)));have HCH9:=Qh (HCH2.out.mono ho.size);have HCN9:=Qh (PAt.cnt hp);clear cc ho hp;go_wp2_with fail;go_roundw;case rel=>exact⟨T++[(NodeD.tab m,W80.heap.size,W81.heap.size)],tzv,g',hvb,by omega,by simp only[List.length_append,List.length_cons,List.length_nil];omega,by rw[List.map_append];exact HV9.out,HP9.out,HO9.out,OW9.out,HCH9.out⟩
             case measure=>rw[HCN9.out,HCN.out];omega
          case false=>
           have HV:=Qh (show R=if (headT tz).kind=0 then .ok (T.map Prod.fst) tz else formR tz from HRz.out);have cw:=now_any tz hpos kp _ HPe.out;unfold tkV enTok at cw;clear HRz;go_wp2_with fail;(with_reducible refine cw.mono ?_);rintro e W81 ⟨rfl,hb⟩;have HO1:=Qh (HOe.out.trans (Only.of_below kp hb));have HP1:=Qh (HPe.out.keep hb);have OW1:=Qh (HOWN.out.keep last_fdNodT hb);have HCH1:=Qh (HCHe.out.mono hb.size);clear cw hb;by_cases hk:(headT tz).kind=0
           ·have HVR:=Qh (show R=.ok (T.map Prod.fst) tz by rw[HV.out,if_pos hk]);rw[hk];go_wp2_with fail;refine bodyPost_ret (v:=.slice av T.length cv) (by simp[results,results18]) rfl ?_;rw[HVR.out];exact⟨_,T,rfl,OW1.out,rfl,HCH1.out,HO1.out⟩
           ·have HVR:=Qh (show R=.bad (formN tz) (headT tz).line (headT tz).col by rw[HV.out,if_neg hk];rfl);have e1:=bN hk;have cF:=form_any tz hpos kp _ HP1.out;generalize (headT tz).kind=K at *;go_wp2_with fail;(with_reducible refine cF.mono ?_);rintro e W82 ⟨rfl,hb⟩;have HO9:=Qh (HO1.out.trans (Only.of_below kp hb));clear cF hb;go_wp2_with fail;exact⟨rfl,by rw[HVR.out];exact⟨rfl,HO9.out⟩⟩
end Go.Proofs.YtkblpaabknjckaaGreatDoor
