/-
  The reference of chapter 04: one: contract.
-/
import Derived.Test.YtlacjhjckkablaaGreatDoorBaseD
import Derived.Test.YtlacjhjckkablaaGreatDoorRlxE
import Derived.Test.YtlacjhjckkablaaGreatDoorLexB
import Derived.Test.YtlacjhjckkablaaGreatDoorLexG
import Derived.Test.YtlacjhjckkablaaGreatDoorChrE
import Derived.StillTailTactics
import Derived.Test.YtlacjhjckkablaaGreatDoorTxtP
import Derived.Test.YtlacjhjckkablaaGreatDoorRlxM
set_option maxHeartbeats 128000000
set_option linter.unusedVariables false
namespace Go.Proofs.YtlacjhjckkablaaGreatDoor
open Go.Proofs.Tryz
open Go.RowKit Go.Shelf
def enUnt (u:Unt):List Value:=[.int .i64 u.line,.int .i64 u.col,.int .i32 (u.rune:Nat),.int .i64 (u.wide:Nat),.bool (illU u.rune u.wide)]
theorem enUnt_len (u:Unt):(enUnt u).length=5:=rfl
theorem unts_ty:SlTy prog 243 246 5 40:=SlTy.mk' (.agg #[.int .i64 0,.int .i64 0,.int .i32 0,.int .i64 0,.bool false]) underlying243 (by kernel_rfl) rfl (by decide) (by decide)
theorem unt_at {w:World} {a:Option Addr} {cap:Nat} {l:List Unt} (h:SlOf w enUnt 5 a cap l) {k:Nat} (hk:k < l.length) :
    ∃ b o,a=some ⟨b,o,none⟩∧b < w.heap.size∧w.cell? ⟨b,o+k*5,none⟩=some (.int .i64 l[k].line)∧w.cell? ⟨b,o+k*5+1,none⟩=some (.int .i64 l[k].col)∧w.cell? ⟨b,o+k*5+2,none⟩=some (.int .i32 (l[k].rune:Nat))∧w.cell? ⟨b,o+k*5+3,none⟩=some (.int .i64 (l[k].wide:Nat))∧w.cell? ⟨b,o+k*5+4,none⟩=some (.bool (illU l[k].rune l[k].wide)):=by
  obtain⟨b,o,rfl,hb,hc⟩:=SlOf.cells h enUnt_len (by decide) hk;exact⟨b,o,rfl,hb,hc 0 (by decide),by rw[Nat.add_assoc];exact hc 1 (by decide),by rw[Nat.add_assoc];exact hc 2 (by decide),by rw[Nat.add_assoc];exact hc 3 (by decide),by rw[Nat.add_assoc];exact hc 4 (by decide)⟩
theorem enc_size (R:Nat) (k:Nat) (h:(k=1∧R < 128)∨(k=2∧128≤R∧R≤2047)∨(k=3∧2048≤R∧R≤65535∧(R < 55296∨57344≤R))∨(k=4∧65536≤R∧R≤1114111)):(Utf8.encode (R:Int)).size=k:=by
  have hv:Utf8.valid (R:Int)=true:=by
    unfold Utf8.valid;simp only[Bool.or_eq_true,Bool.and_eq_true,decide_eq_true_eq];omega
  unfold Utf8.encode;simp only[hv,if_true,Int.toNat_natCast];rcases h with ⟨rfl,h1⟩|⟨rfl,h1,h2⟩|⟨rfl,h1,h2,h3⟩|⟨rfl,h1,h2⟩
  · rw[if_pos h1];rfl
  · rw[if_neg (by omega),if_pos (by omega)];rfl
  · rw[if_neg (by omega),if_neg (by omega),if_pos (by omega)];rfl
  · rw[if_neg (by omega),if_neg (by omega),if_neg (by omega)];rfl
theorem unit_ref (s:List UInt8) (k:Nat) (hk:k < s.length):∃ R N,decL (s.drop k)=(R,N)∧1≤N∧k+N≤s.length ∧
    ((R≠65533∧illU R N=false∧(Utf8.encode (R:Int)).size=N) ∨
     (R=65533∧N=3∧illU R N=false∧(Utf8.encode (R:Int)).size=N∧k+2 < s.length∧atB s k=239∧atB s (k+1)=191∧atB s (k+2)=189) ∨
     (R=65533∧N=1∧illU R N=true∧(s.length≤k+2∨(k+2 < s.length∧(atB s k≠239∨(atB s k=239∧atB s (k+1)≠191)∨(atB s k=239∧atB s (k+1)=191∧atB s (k+2)≠189)))))):=by
  have hne:s.drop k≠[]:=(by intro h;have:=congrArg List.length h;rw[List.length_drop]at this;simp at this;omega);have hw:=dec_w (s.drop k);rw[List.length_drop]at hw;have hw2:=hw.2.2 hne;refine⟨(decL (s.drop k)).1,(decL (s.drop k)).2,rfl,hw.1,by omega,?_⟩;have hg:∀ j,(s.drop k).getD j 0=atB s (k+j):=fun j=>by unfold atB;rw[List.getD_eq_getElem?_getD,List.getElem?_drop]
  by_cases h:(decL (s.drop k)).1=65533
  · have hi:(decL (s.drop k)).2=1∧¬ (3≤(s.drop k).length∧((s.drop k).getD 0 0).toNat=239∧((s.drop k).getD 1 0).toNat=191∧((s.drop k).getD 2 0).toNat=189)∨(decL (s.drop k)).2=3∧3≤(s.drop k).length∧((s.drop k).getD 0 0).toNat=239∧((s.drop k).getD 1 0).toNat=191∧((s.drop k).getD 2 0).toNat=189:=decN_ill (s.drop k).length ((s.drop k).getD 0 0).toNat ((s.drop k).getD 1 0).toNat ((s.drop k).getD 2 0).toNat ((s.drop k).getD 3 0).toNat (UInt8.toNat_lt _) (UInt8.toNat_lt _) (UInt8.toNat_lt _) h
    rw[List.length_drop,hg 0,hg 1,hg 2]at hi;have un:∀ (c:UInt8) (m:UInt8),c.toNat=m.toNat↔c=m:=fun c m=>UInt8.toNat_inj
    have e0:(239:UInt8).toNat=239:=rfl;have e1:(191:UInt8).toNat=191:=rfl;have e2:(189:UInt8).toNat=189:=rfl;rw[← e0,← e1,← e2,un,un,un,Nat.add_zero]at hi
    right
    rcases hi with ⟨h1,h2⟩|⟨h1,h2,h3,h4,h5⟩
    · right
      have h1':(decL (s.drop k)).2=1:=h1;refine⟨h,h1',by rw[h,h1'];rfl,?_⟩;by_cases hl:s.length≤k+2
      · exact .inl hl
      · refine .inr ⟨by omega,?_⟩
        by_cases a0:atB s k=239
        · by_cases a1:atB s (k+1)=191
          · by_cases a2:atB s (k+2)=189
            · exact absurd ⟨by omega,a0,a1,a2⟩ h2
            · exact .inr (.inr ⟨a0,a1,a2⟩)
          · exact .inr (.inl ⟨a0,a1⟩)
        · exact .inl a0
    · left
      have h1':(decL (s.drop k)).2=3:=h1;exact⟨h,h1',by rw[h,h1'];rfl,by rw[h,h1'];rfl,by omega,h3,h4,h5⟩
  · left
    obtain⟨c,n,e,hc⟩:=decN_cases (s.drop k).length ((s.drop k).getD 0 0).toNat ((s.drop k).getD 1 0).toNat ((s.drop k).getD 2 0).toNat ((s.drop k).getD 3 0).toNat;have e':decL (s.drop k)=(c,n):=e;rw[e']at h ⊢;simp only at h ⊢;refine⟨h,by unfold illU;rw[Bool.and_eq_false_iff,beq_eq_false_iff_ne];exact .inl h,enc_size c n ?_⟩;rcases hc with hc|hc|hc|hc|hc
    · exact .inl hc
    · exact .inr (.inl hc)
    · exact .inr (.inr (.inl hc))
    · exact .inr (.inr (.inr hc))
    · exact absurd hc.1 h
structure UnI (s:List UInt8) (k f:Nat) (L C:Int) (acc:List Unt):Prop where
  hk:k≤s.length
  hf:s.length≤f+k
  hv:unitsL s=acc++unitsF f (s.drop k) (L,C)
  l1:1≤L
  l2:L≤(k:Int)+1
  c1:1≤C
  c2:C≤(k:Int)+1
  n:acc.length≤k
theorem UnI.step {s:List UInt8} {k f:Nat} {L C:Int} {acc:List Unt} (h:UnI s k (f+1) L C acc) (hlt:k < s.length) {R N:Nat} (he:decL (s.drop k)=(R,N)) (h1:1≤N) (h2:k+N≤s.length):UnI s (k+N) f (nextP (L,C) R).1 (nextP (L,C) R).2 (acc++[⟨L,C,R,N⟩]):=by
  have hne:s.drop k≠[]:=(by intro h;have:=congrArg List.length h;rw[List.length_drop]at this;simp at this;omega);obtain⟨a,b,v,d1,d2,d3,d4,n⟩:=h;have hu:unitsF (f+1) (s.drop k) (L,C)=⟨L,C,R,N⟩::unitsF f (s.drop (k+N)) (nextP (L,C) R):=by
    show(if s.drop k=[] then [] else _)=_;rw[if_neg hne,he,List.drop_drop]
  have hn:1≤(nextP (L,C) R).1∧(nextP (L,C) R).1≤L+1∧1≤(nextP (L,C) R).2∧(nextP (L,C) R).2≤C+1:=by
    unfold nextP;split<;>simp only<;>omega
  refine⟨h2,by omega,?_,hn.1,by omega,hn.2.2.1,by omega,by rw[List.length_append];simp;omega⟩;rw[v,hu,List.append_assoc];rfl
structure UnW (s:List UInt8) (w:World) (A:Nat) (wr:World) (v:Value) (k:Nat) (acc:List Unt):Prop where
  it:wr.heap[A]? = some (.stringIter ⟨s.toArray⟩ k)
  own:Owns wr w.heap.size 246 5 enUnt v acc
  far:∀ j,v.ownBlock=some j→A < j
  bel:Below w.heap.size w wr
  sz:A < wr.heap.size
  low:w.heap.size≤A
theorem UnW.next {s:List UInt8} {w:World} {A:Nat} {wr:World} {v:Value} {k:Nat} {acc:List Unt} (h:UnW s w A wr v k acc) (k':Nat):UnW s w A (wr.iterAt A ⟨s.toArray⟩ k') v k' acc:=
  ⟨Lib.iterAt_heap wr A ⟨s.toArray⟩ k k' h.it,h.own.of_heap (fun j hj=>Lib.iterAt_other _ _ _ _ _ (by have:=h.far j hj;omega)),h.far,
    Lib.below_iterAt h.bel h.low _ _,by rw[Lib.iterAt_size];exact h.sz,h.low⟩
theorem UnW.app {s:List UInt8} {w:World} {A:Nat} {wr w1:World} {v v':Value} {k:Nat} {acc acc':List Unt} (h:UnW s w A wr v k acc) (ho:Owns w1 w.heap.size 246 5 enUnt v' acc') (hb:Below w.heap.size w w1) (hg:wr.grownBy w1 v.ownBlock) (hv:∀ k,v'.ownBlock=some k→v.ownBlock=some k∨wr.heap.size≤k):UnW s w A w1 v' k acc':=by
  have hsz:=h.sz;exact⟨by rw[hg.block _ hsz (fun e=>by have:=h.far A e.symm;omega)];exact h.it,ho,fun j hj=>by rcases hv j hj with h1|h1;exact h.far j h1;omega,hb,Nat.lt_of_lt_of_le hsz hg.size,h.low⟩
set_option maxRecDepth 100000 in theorem units_any (s : List UInt8) (hs : s.length ≤ 1000000000) (w : World) :
    Calls prog 126 #[.string ⟨s.toArray⟩] w fun e w'=>∃ a c,e=.returned (.slice a (unitsL s).length c)∧Owns w' w.heap.size 246 5 enUnt (.slice a (unitsL s).length c) (unitsL s)∧Below w.heap.size w w':=by
  have hI0:UnI s 0 s.length 1 1 []:=⟨Nat.zero_le _,lrf,rfl,by decide,by decide,by decide,by decide,lrf⟩
  have h0:UnW s w w.heap.size (w.iter ⟨s.toArray⟩ 0) (.slice none 0 0) 0 []:=
    ⟨World.iter_heap w ⟨s.toArray⟩ 0,Owns.nil _ _ _ _ _,(fun j h=>by cases h),(Below.refl _ _).alloc lrf _,by simp[World.iter],lrf⟩
  have HI0:=Qh hI0;have H0:=Qh h0;clear hI0 h0;go_enter func126,ntmps126
  go_wp2_with fail;generalize w.iter ⟨s.toArray⟩ 0=V0 at *;go_loopw [3,4,5] (fun v xl xc wr=>∃ (k f:Nat) (L C:Int) (acc:List Unt),xl=.int .i64 L∧xc=.int .i64 C∧UnI s k f L C acc∧UnW s w w.heap.size wr v k acc) (fun _ _ _ wr=>s.length - wr.iterPos w.heap.size)
  case atStart=>exact⟨0,s.length,1,1,[],rfl,rfl,HI0.out,H0.out⟩
  case round=>
    clear H0 HI0;obtain⟨k,f,L,C,acc,rfl,rfl,hI,hX⟩:=hrel;have HM:=Qh (iterPos_of hX.it:wr.iterPos w.heap.size=k);by_cases hlt:k < s.length
    · obtain⟨f,rfl⟩:∃ g,f=g+1:=⟨f - 1,by have:=hI.hf;omega⟩
      obtain⟨R,N,hde,hN1,hN2,hcase⟩:=unit_ref s k hlt;have HST:=Qh (hI.step hlt hde hN1 hN2);have hps:k < (⟨s.toArray⟩:ByteArray).size:=hlt;have hit:=hX.it;have hnx:∀ ty,(Instr.next (.pointer (some ⟨w.heap.size,0,none⟩)) true ty).run prog wr=_:=fun ty=>Lib.run_next_any_at wr w.heap.size ⟨s.toArray⟩ k ty hit hps
      rw[dec_drop,hde]at hnx;simp only at hnx;have HX:=Qh (hX.next (k+N));have hlen:(⟨s.toArray⟩:ByteArray).size=s.length:=rfl;have hwC:IntKind.i64.wrap (C+1)=C+1:=by
        have h3:=hI.c1;have h4:=hI.c2;unfold IntKind.wrap;simp[IntKind.bits,IntKind.signed];omega
      have hwL:IntKind.i64.wrap (L+1)=L+1:=by
        have h3:=hI.l1;have h4:=hI.l2;unfold IntKind.wrap;simp[IntKind.bits,IntKind.signed];omega
      have hacc:acc.length≤k:=hI.n;generalize wr.iterAt w.heap.size ⟨s.toArray⟩ (k+N)=wv at *;have hR:(((R:Int) == 10)=true∧nextP (L,C) R=(L+1,1))∨(((R:Int) == 10)=false∧nextP (L,C) R=(L,C+1)):=by
        by_cases h:R=10
        · left;rw[h];exact⟨rfl,rfl⟩
        · right;exact⟨by rw[beq_eq_false_iff_ne];omega,by unfold nextP;rw[if_neg h]⟩
      have HR:=Qh hR;clear hX hI hps hit hde hR;have hg0:=get_atB s k hlt;have hcase2:(((R:Int) == 65533)=false∧illU R N=false∧(Utf8.encode (R:Int)).size=N) ∨
          (R=65533∧N=3∧k+2 < s.length∧atB s k=239∧atB s (k+1)=191∧atB s (k+2)=189) ∨
          (((R:Int) == 65533)=true∧illU R N=true∧N=1∧(s.length≤k+2∨(k+2 < s.length∧(atB s k≠239∨(atB s k=239∧atB s (k+1)≠191)∨(atB s k=239∧atB s (k+1)=191∧atB s (k+2)≠189))))):=by
        rcases hcase with ⟨h1,h2,h3⟩|⟨rfl,rfl,h2,h3,h4,h5,h6,h7⟩|⟨rfl,rfl,h2,h4⟩
        · exact .inl ⟨by rw[beq_eq_false_iff_ne];omega,h2,h3⟩
        · exact .inr (.inl ⟨rfl,rfl,h4,h5,h6,h7⟩)
        · exact .inr (.inr ⟨rfl,h2,rfl,h4⟩)
      clear hcase;rcases hcase2 with ⟨g,h2,h3⟩|⟨rfl,rfl,h4,h5,h6,h7⟩|⟨g,h2,h3,h4⟩
      · have HIL:=Qh h2
        clear h2;rcases HR.out with ⟨gR,hn⟩|⟨gR,hn⟩
        · rw[hn]at HST
          clear hn HR;go_wp2_with (at_builtin;go_loud (refine wpList_append_elem3 unts_ty acc ⟨L,C,R,N⟩ HX.out.own HX.out.bel lrf (by omega) ?_ (hy:=by show _=[_,_,_,_,Value.bool (illU R N)];rw[HIL.out]) (hone:=by simp[enUnt,Value.oneCell'])))
          intro v' w9 hown hbel hg hv;have HX9:=Qh (HX.out.app hown hbel hg hv);clear hown hbel hg hv;go_wp2_with fail;go_roundw;case rel=>exact⟨k+N,f,L+1,1,_,rfl,rfl,HST.out,HX9.out⟩
          case measure=>rw[iterPos_of HX9.out.it,HM.out];omega
        · rw[hn]at HST
          clear hn HR;go_wp2_with (at_builtin;go_loud (refine wpList_append_elem3 unts_ty acc ⟨L,C,R,N⟩ HX.out.own HX.out.bel lrf (by omega) ?_ (hy:=by show _=[_,_,_,_,Value.bool (illU R N)];rw[HIL.out]) (hone:=by simp[enUnt,Value.oneCell'])))
          intro v' w9 hown hbel hg hv;have HX9:=Qh (HX.out.app hown hbel hg hv);clear hown hbel hg hv;go_wp2_with fail;go_roundw;case rel=>exact⟨k+N,f,L,C+1,_,rfl,rfl,HST.out,HX9.out⟩
          case measure=>rw[iterPos_of HX9.out.it,HM.out];omega
      · have hg1:=get_atB s (k+1) (by omega)
        have hg2:=get_atB s (k+2) h4;have q0:(((atB s k).toNat:Int) != 239)=false:=u8_neT (k:=239) (by decide) h5;have q1:(((atB s (k+1)).toNat:Int) != 191)=false:=u8_neT (k:=191) (by decide) h6;have q2:(((atB s (k+2)).toNat:Int) != 189)=false:=u8_neT (k:=189) (by decide) h7;generalize atB s k=c0 at *;generalize atB s (k+1)=c1 at *;generalize atB s (k+2)=c2 at *;have hcv:∀ w,(convert 21 9 (.int .i32 65533)).run prog w=.ok (.string ⟨#[239,191,189]⟩) w:=fun w=>by kernel_rfl
        have HN:=Qh (show UnI s (k+3) f L (C+1) (acc++[⟨L,C,65533,3⟩])from HST.out);have hdl:decide ((s.length:Int)≤(k:Int)+2)=false:=decide_eq_false (by omega);clear h5 h6 h7 HR HST;go_wp2_with (at_builtin;go_loud (refine wpList_append_elem3 unts_ty acc ⟨L,C,65533,3⟩ HX.out.own HX.out.bel lrf (by omega) ?_ (hone:=by simp[enUnt,Value.oneCell'])))
        intro v' w9 hown hbel hg hv;have HX9:=Qh (HX.out.app hown hbel hg hv);clear hown hbel hg hv;go_wp2_with fail;go_roundw;case rel=>exact⟨k+3,f,L,C+1,_,rfl,rfl,HN.out,HX9.out⟩
        case measure=>rw[iterPos_of HX9.out.it,HM.out];omega
      · subst h3
        have HIL:=Qh h2;clear h2;rcases h4 with h4|⟨h4,h5⟩
        · rcases HR.out with ⟨gR,hn⟩|⟨gR,hn⟩
          · rw[hn]at HST
            clear hn HR;go_wp2_with (at_builtin;go_loud (refine wpList_append_elem3 unts_ty acc ⟨L,C,R,1⟩ HX.out.own HX.out.bel lrf (by omega) ?_ (hy:=by show _=[_,_,_,_,Value.bool (illU R 1)];rw[HIL.out];rfl) (hone:=by simp[enUnt,Value.oneCell'])))
            intro v' w9 hown hbel hg hv;have HX9:=Qh (HX.out.app hown hbel hg hv);clear hown hbel hg hv;go_wp2_with fail;go_roundw;case rel=>exact⟨k+1,f,L+1,1,_,rfl,rfl,HST.out,HX9.out⟩
            case measure=>rw[iterPos_of HX9.out.it,HM.out];omega
          · rw[hn]at HST
            clear hn HR;go_wp2_with (at_builtin;go_loud (refine wpList_append_elem3 unts_ty acc ⟨L,C,R,1⟩ HX.out.own HX.out.bel lrf (by omega) ?_ (hy:=by show _=[_,_,_,_,Value.bool (illU R 1)];rw[HIL.out];rfl) (hone:=by simp[enUnt,Value.oneCell'])))
            intro v' w9 hown hbel hg hv;have HX9:=Qh (HX.out.app hown hbel hg hv);clear hown hbel hg hv;go_wp2_with fail;go_roundw;case rel=>exact⟨k+1,f,L,C+1,_,rfl,rfl,HST.out,HX9.out⟩
            case measure=>rw[iterPos_of HX9.out.it,HM.out];omega
        · have hg1:=get_atB s (k+1) (by omega)
          have hg2:=get_atB s (k+2) h4;have hq:(((atB s k).toNat:Int) != 239)=true∨((((atB s k).toNat:Int) != 239)=false∧(((atB s (k+1)).toNat:Int) != 191)=true)∨((((atB s k).toNat:Int) != 239)=false∧(((atB s (k+1)).toNat:Int) != 191)=false∧(((atB s (k+2)).toNat:Int) != 189)=true):=by
            rcases h5 with h|⟨h,h'⟩|⟨h,h',h''⟩
            · exact .inl (u8_neF (k:=239) (by decide) h)
            · exact .inr (.inl ⟨u8_neT (k:=239) (by decide) h,u8_neF (k:=191) (by decide) h'⟩)
            · exact .inr (.inr ⟨u8_neT (k:=239) (by decide) h,u8_neT (k:=191) (by decide) h',u8_neF (k:=189) (by decide) h''⟩)
          generalize atB s k=c0 at *;generalize atB s (k+1)=c1 at *;generalize atB s (k+2)=c2 at *;clear h5;rcases hq with q0|⟨q0,q1⟩|⟨q0,q1,q2⟩
          · rcases HR.out with ⟨gR,hn⟩|⟨gR,hn⟩
            · rw[hn]at HST
              clear hn HR;go_wp2_with (at_builtin;go_loud (refine wpList_append_elem3 unts_ty acc ⟨L,C,R,1⟩ HX.out.own HX.out.bel lrf (by omega) ?_ (hy:=by show _=[_,_,_,_,Value.bool (illU R 1)];rw[HIL.out];rfl) (hone:=by simp[enUnt,Value.oneCell'])))
              intro v' w9 hown hbel hg hv;have HX9:=Qh (HX.out.app hown hbel hg hv);clear hown hbel hg hv;go_wp2_with fail;go_roundw;case rel=>exact⟨k+1,f,L+1,1,_,rfl,rfl,HST.out,HX9.out⟩
              case measure=>rw[iterPos_of HX9.out.it,HM.out];omega
            · rw[hn]at HST
              clear hn HR;go_wp2_with (at_builtin;go_loud (refine wpList_append_elem3 unts_ty acc ⟨L,C,R,1⟩ HX.out.own HX.out.bel lrf (by omega) ?_ (hy:=by show _=[_,_,_,_,Value.bool (illU R 1)];rw[HIL.out];rfl) (hone:=by simp[enUnt,Value.oneCell'])))
              intro v' w9 hown hbel hg hv;have HX9:=Qh (HX.out.app hown hbel hg hv);clear hown hbel hg hv;go_wp2_with fail;go_roundw;case rel=>exact⟨k+1,f,L,C+1,_,rfl,rfl,HST.out,HX9.out⟩
              case measure=>rw[iterPos_of HX9.out.it,HM.out];omega
          · rcases HR.out with ⟨gR,hn⟩|⟨gR,hn⟩
            · rw[hn]at HST
              clear hn HR;go_wp2_with (at_builtin;go_loud (refine wpList_append_elem3 unts_ty acc ⟨L,C,R,1⟩ HX.out.own HX.out.bel lrf (by omega) ?_ (hy:=by show _=[_,_,_,_,Value.bool (illU R 1)];rw[HIL.out];rfl) (hone:=by simp[enUnt,Value.oneCell'])))
              intro v' w9 hown hbel hg hv;have HX9:=Qh (HX.out.app hown hbel hg hv);clear hown hbel hg hv;go_wp2_with fail;go_roundw;case rel=>exact⟨k+1,f,L+1,1,_,rfl,rfl,HST.out,HX9.out⟩
              case measure=>rw[iterPos_of HX9.out.it,HM.out];omega
            · rw[hn]at HST
              clear hn HR;go_wp2_with (at_builtin;go_loud (refine wpList_append_elem3 unts_ty acc ⟨L,C,R,1⟩ HX.out.own HX.out.bel lrf (by omega) ?_ (hy:=by show _=[_,_,_,_,Value.bool (illU R 1)];rw[HIL.out];rfl) (hone:=by simp[enUnt,Value.oneCell'])))
              intro v' w9 hown hbel hg hv;have HX9:=Qh (HX.out.app hown hbel hg hv);clear hown hbel hg hv;go_wp2_with fail;go_roundw;case rel=>exact⟨k+1,f,L,C+1,_,rfl,rfl,HST.out,HX9.out⟩
              case measure=>rw[iterPos_of HX9.out.it,HM.out];omega
          · rcases HR.out with ⟨gR,hn⟩|⟨gR,hn⟩
            · rw[hn]at HST
              clear hn HR;go_wp2_with (at_builtin;go_loud (refine wpList_append_elem3 unts_ty acc ⟨L,C,R,1⟩ HX.out.own HX.out.bel lrf (by omega) ?_ (hy:=by show _=[_,_,_,_,Value.bool (illU R 1)];rw[HIL.out];rfl) (hone:=by simp[enUnt,Value.oneCell'])))
              intro v' w9 hown hbel hg hv;have HX9:=Qh (HX.out.app hown hbel hg hv);clear hown hbel hg hv;go_wp2_with fail;go_roundw;case rel=>exact⟨k+1,f,L+1,1,_,rfl,rfl,HST.out,HX9.out⟩
              case measure=>rw[iterPos_of HX9.out.it,HM.out];omega
            · rw[hn]at HST
              clear hn HR;go_wp2_with (at_builtin;go_loud (refine wpList_append_elem3 unts_ty acc ⟨L,C,R,1⟩ HX.out.own HX.out.bel lrf (by omega) ?_ (hy:=by show _=[_,_,_,_,Value.bool (illU R 1)];rw[HIL.out];rfl) (hone:=by simp[enUnt,Value.oneCell'])))
              intro v' w9 hown hbel hg hv;have HX9:=Qh (HX.out.app hown hbel hg hv);clear hown hbel hg hv;go_wp2_with fail;go_roundw;case rel=>exact⟨k+1,f,L,C+1,_,rfl,rfl,HST.out,HX9.out⟩
              case measure=>rw[iterPos_of HX9.out.it,HM.out];omega
    · have hks:k=s.length:=by have:=hI.hk;omega
      have HV:=Qh (show unitsL s=acc by rw[hI.hv,hks,List.drop_length,unitsF_nil,List.append_nil]);have hit:=hX.it;have hps:¬ k < (⟨s.toArray⟩:ByteArray).size:=hlt;have hnx:∀ ty,(Instr.next (.pointer (some ⟨w.heap.size,0,none⟩)) true ty).run prog wr=_:=fun ty=>Lib.run_next_end_at wr w.heap.size ⟨s.toArray⟩ k ty hit hps
      obtain⟨a,c,rfl,_⟩:=hX.own.shape;have HX:=Qh hX;clear hps hit hks hX hI HM hlt;go_wp2_with fail;go_ret;rw[HV.out];exact⟨a,c,rfl,HX.out.own,HX.out.bel⟩
def chk3V (s:List UInt8):Value:=if 1048576 < s.length then .tuple #[.int .i64 5,.agg #[.int .i64 0,.int .i64 0]] else match checkL s with
 | none=>.tuple #[.int .i64 0,.agg #[.int .i64 0,.int .i64 0]]
 | some u=>.tuple #[.int .i64 6,.agg #[.int .i64 u.line,.int .i64 u.col]]
theorem unts_len (s:List UInt8):(unitsL s).length≤s.length:=unitsF_len _ _ _
set_option maxRecDepth 100000 in theorem check3_any (s : List UInt8) (hs : s.length ≤ 9223372036854775807) (w : World) :
  Calls prog 78 #[.string ⟨s.toArray⟩] w fun e w'=>e=.returned (chk3V s)∧Below w.heap.size w w':=by
 have HB0:=Qh ((Below.refl w.heap.size w).alloc lrf (.cells #[.int .i64 0,.int .i64 0] 28));have HK0:=Qh (Blk.new w #[.int .i64 0,.int .i64 0] 28);obtain⟨V,hV⟩:∃ V,V=chk3V s:=⟨_,rfl⟩
 rw[← hV];unfold chk3V at hV;by_cases hlong:(1048576:Int) < s.length
 ·rw[if_pos (by omega)]at hV;have HN:=Qh hV;clear hV;go_enter func78,ntmps78
  go_wp2_with fail;exact bodyPost_ret (v:=.tuple #[.int .i64 5,.agg #[.int .i64 0,.int .i64 0]]) (by simp[results,results78,go_sem]) rfl ⟨by rw[HN.out],HB0.out⟩
 ·rw[if_neg (by omega)]at hV;have cU:=fun w=>units_any s (by omega) w
  have HV:=Qh hV;have hbig:decide ((1048576:Int) < s.length)=false:=decide_eq_false hlong;have hul:=unts_len s;have HLN:=Qh (show s.length≤1048576 by omega);clear hV hs hlong;go_enter func78,ntmps78
  go_wp2_with fail;with_reducible refine(cU _).mono ?_
  rintro e w1 ⟨a,c,rfl,ho,hb⟩;generalize w.alloc (.cells #[.int .i64 0,.int .i64 0] 28)=W at *;have HB1:=Qh (bstep HB0.out hb lrf);have HK1:=Qh (HK0.out.keep hb lrf);have HS:=Qh ho.sl.2;have hn63:(unitsL s).length≤1048576:=(by have:=HLN.out;omega);clear hb ho cU hbig HB0 HK0 hul HLN;obtain⟨r0,r1,f0,f1⟩:=HK1.out.two;go_wp2_with fail;go_loopw [5] (fun x wr=>∃ k:Nat,x=.int .i64 (k:Nat)∧k≤(unitsL s).length∧(∀ j,(h:j < (unitsL s).length)→j < k→badU (unitsL s)[j].rune (unitsL s)[j].wide=false)∧wr=w1) (fun x _=>(unitsL s).length - (intOf x).toNat)
  case atStart=>exact⟨0,rfl,Nat.zero_le _,fun j _ h=>absurd h (Nat.not_lt_zero _),rfl⟩
  case round=>
   obtain⟨k,rfl,hk,hno,rfl⟩:=hrel;by_cases hlt:(k:Int) < (unitsL s).length
   ·have hlt':k < (unitsL s).length:=(by omega);obtain⟨b,o,rfl,hbs,e0,e1,e2,e3,e4⟩:=unt_at HS.out hlt';have hfind:=fun hb=>find_some hlt' hb hno
    have HF:=Qh hfind;have hbdef:badU (unitsL s)[k].rune (unitsL s)[k].wide=(illU (unitsL s)[k].rune (unitsL s)[k].wide || (ctlU (unitsL s)[k].rune && !blankU (unitsL s)[k].rune)):=rfl;have HNX:=Qh (show badU (unitsL s)[k].rune (unitsL s)[k].wide=false→∀ j,(h:j < (unitsL s).length)→j < k+1→badU (unitsL s)[j].rune (unitsL s)[j].wide=false from fun hb j h h2=>by
     by_cases hj:j < k
     ·exact hno j h hj
     ·obtain rfl:j=k:=by omega
      exact hb)
    have HV2:=Qh (show badU (unitsL s)[k].rune (unitsL s)[k].wide=true→V=.tuple #[.int .i64 6,.agg #[.int .i64 (unitsL s)[k].line,.int .i64 (unitsL s)[k].col]]from fun hb=>by
     have h2:=HV.out;rw[show checkL s=some (unitsL s)[k]from hfind hb]at h2;exact h2)
    have cc:=fun w=>control3_any (unitsL s)[k].rune w
    have cb:=fun w=>blank3_any (unitsL s)[k].rune w
    rw[hbdef]at HNX HV2;clear hfind HF hno hbdef HV;generalize illU (unitsL s)[k].rune (unitsL s)[k].wide=bi at *;generalize ctlU (unitsL s)[k].rune=bc at *;generalize blankU (unitsL s)[k].rune=bb at *;generalize (unitsL s)[k].rune=R at *;generalize (unitsL s)[k].wide=N at *;generalize (unitsL s)[k].line=L at *;generalize (unitsL s)[k].col=C at *;cases bi
    ·cases bc
     ·have HX:=Qh (HNX.out rfl);clear HNX HV2;go_wp2_with fail;with_reducible refine(cc _).mono ?_
      rintro e w2 ⟨rfl,rfl⟩;go_wp2_with fail;go_roundw;case rel=>exact⟨k+1,by first|rfl|go_num,by omega,HX.out,by first|rfl|trivial⟩
      case measure=>(simp[intOf]<;>omega)
     ·cases bb
      ·have HX:=Qh (HV2.out rfl);clear HNX HV2;go_wp2_with fail;with_reducible refine(cc _).mono ?_
       rintro e w2 ⟨rfl,rfl⟩;go_wp2_with fail;with_reducible refine(cb _).mono ?_
       rintro e w2 ⟨rfl,rfl⟩;go_wp2_with fail;go_still_tail 6,(by kernel_rfl)
       change wpList _ _ _ _ _ w2.drew;go_wp2_with fail;exact bodyPost_ret (v:=.tuple #[.int .i64 6,.agg #[.int .i64 L,.int .i64 C]]) (by simp[results,results78,go_sem,r0,r1]) rfl ⟨by rw[HX.out],(HB1.out.drew.setCell (p:=⟨w.heap.size,0,none⟩) lrf _).setCell (p:=⟨w.heap.size,1,none⟩) lrf _⟩
      ·have HX:=Qh (HNX.out rfl);clear HNX HV2;go_wp2_with fail;with_reducible refine(cc _).mono ?_
       rintro e w2 ⟨rfl,rfl⟩;go_wp2_with fail;with_reducible refine(cb _).mono ?_
       rintro e w2 ⟨rfl,rfl⟩;go_wp2_with fail;go_roundw;case rel=>exact⟨k+1,by first|rfl|go_num,by omega,HX.out,by first|rfl|trivial⟩
       case measure=>(simp[intOf]<;>omega)
    ·have HX:=Qh (HV2.out rfl);clear HNX HV2;go_wp2_with fail;go_still_tail 6,(by kernel_rfl)
     change wpList _ _ _ _ _ (World.drew _);go_wp2_with fail;exact bodyPost_ret (v:=.tuple #[.int .i64 6,.agg #[.int .i64 L,.int .i64 C]]) (by simp[results,results78,go_sem,r0,r1]) rfl ⟨by rw[HX.out],(HB1.out.drew.setCell (p:=⟨w.heap.size,0,none⟩) lrf _).setCell (p:=⟨w.heap.size,1,none⟩) lrf _⟩
   ·have HX:=Qh (show V=.tuple #[.int .i64 0,.agg #[.int .i64 0,.int .i64 0]]by
     have h2:=HV.out;rw[show checkL s=none from find_none (fun j hj=>hno j hj (by omega))]at h2;exact h2)
    clear hno HV;go_wp2_with fail;exact bodyPost_ret (v:=.tuple #[.int .i64 0,.agg #[.int .i64 0,.int .i64 0]]) (by simp[results,results78,go_sem,r0,r1]) rfl ⟨by rw[HX.out],by first|exact HB1.out|exact(HB1.out.setCell (p:=⟨w.heap.size,0,none⟩) lrf _).setCell (p:=⟨w.heap.size,1,none⟩) lrf _⟩
theorem any_or {α:Type} (p q:α→Bool):∀ l:List α,(l.any p || l.any q)=l.any fun x=>p x || q x
 | []=>rfl
 | a::l=>by
  rw[List.any_cons,List.any_cons,List.any_cons,← any_or p q l];cases p a<;>cases q a<;>cases l.any p<;>cases l.any q<;>rfl
set_option maxRecDepth 100000 in theorem may3_any (s : List UInt8) (hs : s.length ≤ 9223372036854775807) (w : World) :
  Calls prog 156 #[.string ⟨s.toArray⟩] w fun e w'=>e=.returned (.int .i64 (mayN s:Nat))∧Below w.heap.size w w':=by
 obtain⟨V,hV⟩:∃ V,V=mayN s:=⟨_,rfl⟩
 rw[← hV];unfold mayN at hV;by_cases hlong:(1024:Int) < s.length
 ·rw[if_pos (by omega)]at hV;have HN:=Qh hV;clear hV;go_enter func156,ntmps156
  go_wp2_with fail;go_ret;exact⟨by rw[HN.out]<;>rfl,Below.refl _ _⟩
 ·rw[if_neg (by omega),any_or]at hV;have cU:=fun w=>units_any s (by omega) w
  have HV:=Qh hV;have hul:=unts_len s;have hn63:(unitsL s).length≤1024:=(by omega);clear hV hs hul;go_enter func156,ntmps156
  go_wp2_with fail;with_reducible refine(cU _).mono ?_
  rintro e w1 ⟨a,c,rfl,ho,hb⟩;have HB1:=Qh hb;have HS:=Qh ho.sl.2;clear hb ho cU hlong;go_wp2_with fail;go_loopw [4] (fun x wr=>∃ k:Nat,x=.int .i64 (k:Nat)∧k≤(unitsL s).length∧(∀ j,(h:j < (unitsL s).length)→j < k→(illU (unitsL s)[j].rune (unitsL s)[j].wide || ctlU (unitsL s)[j].rune)=false)∧wr=w1) (fun x _=>(unitsL s).length - (intOf x).toNat)
  case atStart=>exact⟨0,rfl,Nat.zero_le _,fun j _ h=>absurd h (Nat.not_lt_zero _),rfl⟩
  case round=>
   obtain⟨k,rfl,hk,hno,rfl⟩:=hrel;by_cases hlt:(k:Int) < (unitsL s).length
   ·have hlt':k < (unitsL s).length:=(by omega);obtain⟨b,o,rfl,hbs,e0,e1,e2,e3,e4⟩:=unt_at HS.out hlt';have HNX:=Qh (show(illU (unitsL s)[k].rune (unitsL s)[k].wide || ctlU (unitsL s)[k].rune)=false→∀ j,(h:j < (unitsL s).length)→j < k+1→(illU (unitsL s)[j].rune (unitsL s)[j].wide || ctlU (unitsL s)[j].rune)=false from fun hb j h h2=>by
     by_cases hj:j < k
     ·exact hno j h hj
     ·obtain rfl:j=k:=by omega
      exact hb)
    have HV2:=Qh (show(illU (unitsL s)[k].rune (unitsL s)[k].wide || ctlU (unitsL s)[k].rune)=true→V=6 from fun hb=>by
     have h2:=HV.out;rw[if_pos (List.any_eq_true.2 ⟨(unitsL s)[k],List.getElem_mem _,hb⟩)]at h2;exact h2)
    have cc:=fun w=>control3_any (unitsL s)[k].rune w
    clear hno HV;generalize illU (unitsL s)[k].rune (unitsL s)[k].wide=bi at *;generalize ctlU (unitsL s)[k].rune=bc at *;generalize (unitsL s)[k].rune=R at *;cases bi
    ·cases bc
     ·have HX:=Qh (HNX.out rfl);clear HNX HV2;go_wp2_with fail;with_reducible refine(cc _).mono ?_
      rintro e w2 ⟨rfl,rfl⟩;go_wp2_with fail;go_roundw;case rel=>exact⟨k+1,by first|rfl|go_num,by omega,HX.out,by first|rfl|trivial⟩
      case measure=>(simp[intOf]<;>omega)
     ·have HX:=Qh (HV2.out rfl);clear HNX HV2;go_wp2_with fail;with_reducible refine(cc _).mono ?_
      rintro e w2 ⟨rfl,rfl⟩;go_wp2_with fail;go_ret;exact⟨by rw[HX.out]<;>rfl,HB1.out⟩
    ·have HX:=Qh (HV2.out rfl);clear HNX HV2;go_wp2_with fail;go_ret;exact⟨by rw[HX.out]<;>rfl,HB1.out⟩
   ·have HX:=Qh (show V=0 by
     have h2:=HV.out;rw[if_neg]at h2
     ·exact h2
     ·intro h;obtain⟨u,hu,h3⟩:=List.any_eq_true.1 h;obtain⟨j,hj,rfl⟩:=List.getElem_of_mem hu;rw[hno j hj (by omega)]at h3;cases h3)
    clear hno HV;go_wp2_with fail;go_ret;exact⟨by rw[HX.out]<;>rfl,HB1.out⟩
theorem u8_beqR (c:UInt8) (k:Nat) (hk:k < 256):((c.toNat:Int) == (k:Int))=(c == UInt8.ofNat k):=by
 rw[Bool.eq_iff_iff,beq_iff_eq,beq_iff_eq];constructor
 ·intro h;exact UInt8.toNat.inj (by rw[UInt8.toNat_ofNat_of_lt' (by simpa using hk)];omega)
 ·intro h;rw[h,UInt8.toNat_ofNat_of_lt' (by simpa using hk)]
theorem u8_neR {c:UInt8} {k:Nat} (hk:k < 256) (h:c≠UInt8.ofNat k):((c.toNat:Int) == (k:Int))=false:=by
 rw[u8_beqR c k hk];simpa using h
theorem u8_neB {c:UInt8} {k:Nat} (hk:k < 256) (h:c≠UInt8.ofNat k):((c.toNat:Int) != (k:Int))=true:=by
 rw[bne,u8_neR hk h];rfl
theorem owns_stringR {P:Program} {src dst e:TypeId} (hs:P.underlying src=some (.slice e)) (he:P.underlying e=some (.int .u8)) (hd:P.underlying dst=some .string)
  {w:World} {base:Nat} {v:Value} {l:List UInt8} (h:Owns w base e 1 enByte v l):(convert src dst v).run P w=.ok (.string ⟨l.toArray⟩) w:=by
 rcases h.2 with ⟨hv,h0⟩|⟨g,cap,cur,hv,_⟩
 ·have:l=[]:=List.length_eq_zero_iff.1 h0;subst this;rw[hv,run_convert_bytes_string w src dst e none 0 0 hs he hd];rfl
 ·rw[hv]at h ⊢;refine run_convert_bytes_back w src dst e ⟨g,0,none⟩ cap l hs he hd fun j hj=>?_
  obtain⟨b,o,e1,_,hc⟩:=SlOf.cell1 h.sl.2 (fun x:UInt8=>.int .u8 (x.toNat:Int)) (fun _=>rfl) hj;cases e1
  rw[Addr.add_lit];exact hc
def unq3V:UnqR→Value
 | .bad n=>.tuple #[.string ⟨#[]⟩,.int .i64 (n:Nat)]
 | .good l=>.tuple #[.string ⟨l.toArray⟩,.int .i64 0]
set_option maxRecDepth 100000 in theorem unquote3_any (s : List UInt8) (hs : s.length ≤ 1000000000) (w : World) :
  Calls prog 133 #[.string ⟨s.toArray⟩] w fun e w'=>e=.returned (unq3V (unqL s))∧Below w.heap.size w w':=by
 obtain⟨V,hV⟩:∃ V,V=unq3V (unqL s):=⟨_,rfl⟩
 rw[← hV];have HV:=Qh hV;clear hV;by_cases h2:(s.length:Int) < 2
 ·have HN:=Qh (show V=.tuple #[.string ⟨#[]⟩,.int .i64 2]by
   rw[HV.out];rcases s with _|⟨a,_|⟨b,t⟩⟩
   ·rfl
   ·rfl
   ·simp at h2;omega)
  clear HV;go_enter func133,ntmps133
  go_wp2_with fail;go_ret2
  exact⟨by rw[HN.out]<;>rfl,Below.refl _ _⟩
 have h0:0 < s.length:=(by omega);have hget:(⟨s.toArray⟩:ByteArray)[0]'h0=s[0]:=rfl;by_cases hq:s[0]=34;case neg=>
  have HN:=Qh (show V=.tuple #[.string ⟨#[]⟩,.int .i64 4]by
   rw[HV.out];rcases s with _|⟨a,_|⟨b,t⟩⟩
   ·simp at h0
   ·simp at h2
   ·show unq3V (if a=34 then _ else _)=_;rw[if_neg (show ¬ a=34 from hq)];rfl)
  have g34:((s[0].toNat:Int) != 34)=true:=u8_neB (k:=34) (by decide) hq;generalize s[0]=c at *;clear HV hq;go_enter func133,ntmps133
  go_wp2_with fail;go_ret2
  exact⟨by rw[HN.out]<;>rfl,Below.refl _ _⟩
 case pos=>
  have hst:V=unq3V (unqEnd (unq [] (s.drop 1))):=by
   rw[HV.out];rcases s with _|⟨a,_|⟨b,t⟩⟩
   ·simp at h0
   ·simp at h2
   ·show unq3V (if a=34 then _ else _)=_;rw[if_pos (show a=34 from hq)];rfl
  have HS:=Qh hst;have g34:((s[0].toNat:Int) != 34)=false:=(by rw[hq];rfl);generalize s[0]=c0 at *;clear HV hq hst;go_enter func133,ntmps133
  go_wp2_with fail;go_loopw [4,5] (fun v x wr=>∃ (k:Nat) (acc:List UInt8),x=.int .i64 (k:Nat)∧1≤k∧k≤s.length∧acc.length≤k∧V=unq3V (unqEnd (unq acc (s.drop k)))∧Owns wr w.heap.size 5 1 enByte v acc∧Below w.heap.size w wr) (fun _ x _=>s.length - (intOf x).toNat)
  case atStart=>exact⟨1,[],rfl,lrf,by omega,Nat.zero_le _,HS.out,Owns.nil _ _ _ _ _,Below.refl _ _⟩
  case round=>
   clear HS hget g34;obtain⟨k,acc,rfl,hk1,hk,hacc,hVk,hown,hb⟩:=hrel;obtain⟨av,cv,rfl,hsv⟩:=hown.shape;by_cases hlt:(s.length:Int)≤(k:Int)
   ·have HN:=Qh (show V=.tuple #[.string ⟨#[]⟩,.int .i64 2]by
     rw[hVk,List.drop_eq_nil_of_le (by omega),unq_nil];rfl)
    clear hVk;go_wp2_with fail;go_ret2
    exact⟨by rw[HN.out]<;>rfl,hb⟩
   ·have hlt':k < s.length:=(by omega);have hget:(⟨s.toArray⟩:ByteArray)[k]'hlt' = s[k]:=rfl;have hd:=List.drop_eq_getElem_cons hlt';rw[hd]at hVk;by_cases h34:s[k]=34
    ·have g:((s[k].toNat:Int) == 34)=true:=(by rw[h34];rfl);rw[h34,unq_quote]at hVk;have HVK:=Qh hVk;generalize s[k]=c at *;clear hd h34 hVk;by_cases hlong:(k:Int)+1 < s.length
     ·have HN:=Qh (show V=.tuple #[.string ⟨#[]⟩,.int .i64 3]by
       rw[HVK.out];show unq3V (if s.drop (k+1)=[] then _ else _)=_;rw[if_neg (by intro h;have:=congrArg List.length h;rw[List.length_drop]at this;simp at this;omega)];rfl)
      clear HVK;go_wp2_with fail;go_ret2
      exact⟨by rw[HN.out]<;>rfl,hb⟩
     ·have HN:=Qh (show V=unq3V (unqFin acc)by
       rw[HVK.out];show unq3V (if s.drop (k+1)=[] then _ else _)=_;rw[if_pos (List.drop_eq_nil_of_le (by omega))])
      have hconv:=owns_stringR (P:=prog) underlying187 underlying5 underlying9 hown;have cm:=may3_any acc (by omega) wr;have HB:=Qh hb;have HO:=Qh hown;clear HVK hb hown;go_wp2_with fail;(with_reducible refine cm.mono ?_);rintro e w1 ⟨rfl,hb1⟩;have hown1:=HO.out.keep hb1 lrf;have hconv1:=owns_stringR (P:=prog) underlying187 underlying5 underlying9 hown1;have HB1:=Qh (bstep HB.out hb1 lrf);clear hb1 hown1 hconv cm HO;by_cases hm:mayN acc=0
      ·have HM:=Qh (show V=.tuple #[.string ⟨acc.toArray⟩,.int .i64 0]by rw[HN.out];unfold unqFin;rw[if_pos hm];rfl);rw[hm];clear hm HN;go_wp2_with fail;go_ret2
       exact⟨by rw[HM.out]<;>rfl,HB1.out⟩
      ·have HM:=Qh (show V=.tuple #[.string ⟨#[]⟩,.int .i64 (mayN acc:Nat)]by rw[HN.out];unfold unqFin;rw[if_neg hm];rfl);have hm2:((mayN acc:Int) != 0)=true:=(by rw[bne_iff_ne];omega);generalize mayN acc=m at *;clear hm HN;go_wp2_with fail;go_ret2
       exact⟨by rw[HM.out]<;>rfl,HB1.out⟩
    ·have g:((s[k].toNat:Int) == 34)=false:=u8_neR (k:=34) (by decide) h34;by_cases h92:s[k]=92
     ·have g2:((s[k].toNat:Int) == 92)=true:=(by rw[h92];rfl);rw[h92]at hVk;by_cases hlt2:(s.length:Int)≤(k:Int)+1
      ·have HN:=Qh (show V=.tuple #[.string ⟨#[]⟩,.int .i64 4]by
        rw[hVk,List.drop_eq_nil_of_le (by omega),unq_esc_end];rfl)
       generalize s[k]=c at *;clear hd h34 h92 hVk;go_wp2_with fail;go_ret2
       exact⟨by rw[HN.out]<;>rfl,hb⟩
      ·have hlt3:k+1 < s.length:=(by omega);have hget2:(⟨s.toArray⟩:ByteArray)[k+1]'hlt3=s[k+1]:=rfl;have hd2:=List.drop_eq_getElem_cons hlt3;rw[hd2,unq_esc]at hVk;generalize s[k]=c at *;generalize s[k+1]=d at *;clear hd hd2 h34 h92;by_cases hdd:d=34∨d=92
       ·rw[if_pos hdd]at hVk;have HVK:=Qh hVk;have gd:((d.toNat:Int) != 34)=false∨(((d.toNat:Int) != 34)=true∧((d.toNat:Int) != 92)=false):=by
         rcases hdd with h|h
         ·left;rw[h];rfl
         ·right;rw[h];exact⟨rfl,rfl⟩
        clear hdd hVk;rcases gd with g3|⟨g3,g4⟩
        all_goals
         go_wp2_with (at_builtin;go_loud (refine wpList_append_elem bytes_ty acc d hown hb lrf (by omega) ?_ (hone:=by simp[enByte,Value.oneCell'])))
         intro v' w1 hown1 hb1;clear hown hb hsv;go_wp2
         go_roundw;case rel=>exact⟨k+1+1,acc++[d],by first|rfl|go_num,by omega,by omega,by rw[List.length_append];simp;omega,HVK.out,hown1,hb1⟩
         case measure=>(simp[intOf]<;>omega)
       ·rw[if_neg hdd]at hVk;have HN:=Qh (show V=.tuple #[.string ⟨#[]⟩,.int .i64 4]from hVk);have g3:((d.toNat:Int) != 34)=true:=u8_neB (k:=34) (by decide) (fun h=>hdd (.inl h));have g4:((d.toNat:Int) != 92)=true:=u8_neB (k:=92) (by decide) (fun h=>hdd (.inr h));clear hdd hVk;go_wp2_with fail;go_ret2
        exact⟨by rw[HN.out]<;>rfl,hb⟩
     ·have g2:((s[k].toNat:Int) == 92)=false:=u8_neR (k:=92) (by decide) h92;rw[unq_plain h34 h92]at hVk;have HVK:=Qh hVk;generalize s[k]=c at *;clear hd h34 h92 hVk;go_wp2_with (at_builtin;go_loud (refine wpList_append_elem bytes_ty acc c hown hb lrf (by omega) ?_ (hone:=by simp[enByte,Value.oneCell'])))
      intro v' w1 hown1 hb1;clear hown hb hsv;go_wp2
      go_roundw;case rel=>exact⟨k+1,acc++[c],by first|rfl|go_num,by omega,by omega,by rw[List.length_append];simp;omega,HVK.out,hown1,hb1⟩
      case measure=>(simp[intOf]<;>omega)
def one4V (i:Nat):TokR→Value
 | .bad e=>.tuple #[tokV 0 [] (0,0),.int .i64 0,.int .i64 (e:Nat)]
 | .good k t n=>.tuple #[tokV k t (0,0),.int .i64 ((i+n:Nat):Int),.int .i64 0]
theorem unq_bad_pos {s:List UInt8} {n:Nat} (h:unqL s=.bad n):1≤n∧n≤6:=by
 have fin:∀ b m,unqFin b=.bad m→1≤m∧m≤6:=fun b m h=>by
  unfold unqFin at h;split at h
  ·cases h
  ·rename_i h2
   cases h
   refine⟨by omega,?_⟩;unfold mayN;split
   ·decide
   ·split<;>decide
 have en:∀ o m,unqEnd o=.bad m→1≤m∧m≤6:=fun o m h=>by
  rcases o with _|⟨b,_|⟨x,r⟩⟩
  ·cases h;decide
  ·cases h;decide
  ·have h':(if r=[] then unqFin b else .bad 3)=.bad m:=h;split at h'
   ·exact fin b m h'
   ·cases h';decide
 rcases s with _|⟨a,_|⟨b,t⟩⟩
 ·cases h;decide
 ·cases h;decide
 ·have h':(if a=34 then unqEnd (unq [] (b::t)) else .bad 4)=.bad n:=h;split at h'
  ·exact en _ n h'
  ·cases h';decide
theorem ext_midR (L:List UInt8) (i n:Nat):(⟨L.toArray⟩:ByteArray).extract i (i+n)=⟨((L.drop i).take n).toArray⟩:=by
 have h:∀ (a b:ByteArray),a.data.toList=b.data.toList→a=b:=fun a b e=>by cases a;cases b;simp at e;rw[e]
 apply h;rw[Go.Lib.extract_data];show(L.drop i).take (i+n - i)=_;rw[Nat.add_sub_cancel_left]
theorem sgC_at (s:List UInt8) (i:Nat) (c:UInt8) (t:List UInt8) (hd:s.drop i=c::t):sgC c.toNat (s.drop i)=((c == 43 || c == 45) && dgU (atB s (i+1)).toNat):=by
 have e1:(c.toNat == 43)=(c == 43):=by
  rw[Bool.eq_iff_iff,beq_iff_eq,beq_iff_eq];exact⟨fun h=>UInt8.toNat_inj.1 h,fun h=>by rw[h];rfl⟩
 have e2:(c.toNat == 45)=(c == 45):=by
  rw[Bool.eq_iff_iff,beq_iff_eq,beq_iff_eq];exact⟨fun h=>UInt8.toNat_inj.1 h,fun h=>by rw[h];rfl⟩
 unfold sgC atB;rw[e1,e2,List.getElem?_drop];cases s[i+1]?<;>rfl
set_option maxRecDepth 100000 in theorem one4_any (s : List UInt8) (i : Nat) (hs : s.length ≤ 1000000000) (hi : i < s.length) (w : World) :
  Calls prog 81 #[.string ⟨s.toArray⟩,.int .i64 (i:Nat)] w fun e w'=>e=.returned (one4V i (tokR (s.drop i)))∧Below w.heap.size w w':=by
 have hd:=List.drop_eq_getElem_cons hi;have hV0:=tok_bytes s[i] (s.drop (i+1));rw[← hd]at hV0;have hsg:=sgC_at s i s[i] (s.drop (i+1)) hd;rw[hsg]at hV0;have hnum:(dgU s[i].toNat || ((s[i] == 43 || s[i] == 45) && dgU (atB s (i+1)).toNat))=true→numA s i=shN i (numN (s.drop i))∧tw (s.drop (i+sgnN (s.drop i)))≠[]:=fun h=>by
  rw[← hsg,hd]at h;have h2:=num_first s[i] (s.drop (i+1)) h;rw[← hd,List.drop_drop]at h2;exact⟨numA_sh s i h2,h2⟩
 have hget:(⟨s.toArray⟩:ByteArray)[i]'hi=s[i]:=rfl;have hsz:sgnR s i=if sgU s[i].toNat=true then i+1 else if ordB (s.drop i)=true then i+3 else 0:=(by unfold sgnR;rw[atB_lt hi]);have htx:s[i]=34→textR (s.drop i)=match endQ false 1 (s.drop (i+1))with
   | none=>.bad 6
   | some j=>match unqL ((s.drop i).take (j+1))with
    | .bad n=>if n=5 then .bad 5 else .bad 6
    | .good t=>.good 3 t (j+1):=fun _=>by
  unfold textR;rw[List.drop_drop];rfl
 have hhd:(s.drop i).take 1=[s[i]]:=(by rw[hd];rfl);have hql:∀ j,endQ false 1 (s.drop (i+1))=some j→i+j+1≤s.length:=fun j h=>by
  have:=endQ_lt _ _ _ _ h;rw[List.length_drop]at this;omega
 have hqs:=endQ_shift (s.drop (i+1)) false i 1;have hol:ordB (s.drop i)=true→i+3≤s.length:=fun h=>by have:=ordB_len h;rw[List.length_drop]at this;omega
 have hnl:=numN_le (s.drop i);rw[List.length_drop]at hnl;obtain⟨V,hV⟩:∃ V,V=one4V i (tokR (s.drop i)):=⟨_,rfl⟩
 rw[← hV];rw[hV0]at hV;have HV:=Qh hV;have HNUM:=Qh hnum;have HSZ:=Qh hsz;have HTX:=Qh htx;have HHD:=Qh hhd;have HQL:=Qh hql;have HQS:=Qh hqs;have HOL:=Qh hol;have HNL:=Qh hnl;have HD:=Qh hd;have HB0:=Qh ((Below.refl w.heap.size w).alloc lrf (.cells #[.int .i64 0,.string ⟨#[]⟩,.int .i64 0,.int .i64 0] 103));have HK0:=Qh (Blk.new w #[.int .i64 0,.string ⟨#[]⟩,.int .i64 0,.int .i64 0] 103);have cl:=fun w=>letter4_any s[i].toNat w
 have cd:=fun w=>digit4_any s[i].toNat w
 clear hV0 hsg hnum hsz htx hhd hql hqs hol hnl hV hd;generalize s[i]=c at *;go_enter func81,ntmps81
 go_wp2_with fail;generalize w.alloc (.cells #[.int .i64 0,.string ⟨#[]⟩,.int .i64 0,.int .i64 0] 103)=W at *;obtain⟨⟨r0,r1,r2,r3⟩,f0,f1,f2,f3⟩:=HK0.out.four;with_reducible refine(cl _).mono ?_
 rintro e w1 ⟨rfl,rfl⟩;have hV:=HV.out;clear HV cl;cases hl:ltU c.toNat
 case true=>
  rw[hl,if_pos rfl]at hV;have hnle:=nameN_le (s.drop i);rw[List.length_drop]at hnle;have hn0:nameN (s.drop i)=((s.drop i).takeWhile ldC).length:=rfl;have hx:=ext_midR s i (nameN (s.drop i));have HX:=Qh hx;generalize nameN (s.drop i)=n at *;have HN0:=Qh hn0;generalize (s.drop i).take n=nm at *;have HN:=Qh (show V=.tuple #[.agg #[.int .i64 1,.string ⟨nm.toArray⟩,.int .i64 0,.int .i64 0],.int .i64 ((i+n:Nat):Int),.int .i64 0]from hV);clear hV hl HNUM HSZ HTX HHD HQL HQS HOL HNL HD cd hx hn0;go_wp2_with fail;go_loopw [8] (fun x wr=>∃ k:Nat,x=.int .i64 (k:Nat)∧i≤k∧k≤s.length∧i+n=k+((s.drop k).takeWhile ldC).length∧wr=w1) (fun x _=>s.length - (intOf x).toNat)
  case atStart=>exact⟨i,rfl,lrf,by omega,by rw[HN0.out],rfl⟩
  case round=>
   clear hget HN0;obtain⟨k,rfl,hik,hk,hnk,rfl⟩:=hrel;by_cases hlt:(k:Int) < s.length
   ·have hlt':k < s.length:=(by omega);have hget:(⟨s.toArray⟩:ByteArray)[k]'hlt' = s[k]:=rfl;have hd:=List.drop_eq_getElem_cons hlt';rw[hd]at hnk;generalize s[k]=ch at *;have cl:=fun w=>letter4_any ch.toNat w
    have cd:=fun w=>digit4_any ch.toNat w
    cases hl:ltU ch.toNat
    ·rw[hl]at cl;cases hg:dgU ch.toNat
     ·rw[hg]at cd;have hld:ldC ch=false:=(by unfold ldC;rw[hl,hg];rfl);rw[List.takeWhile_cons,hld]at hnk;obtain rfl:k=i+n:=by simpa using hnk.symm
      have hx:=HX.out;clear hnk hd hl hg hld HX;go_wp2_with fail;with_reducible refine(cl _).mono ?_
      rintro e w2 ⟨rfl,rfl⟩;go_wp2_with fail;with_reducible refine(cd _).mono ?_
      rintro e w2 ⟨rfl,rfl⟩;go_wp2_with fail;exact bodyPost_ret (v:=.tuple #[.agg #[.int .i64 1,.string ⟨nm.toArray⟩,.int .i64 0,.int .i64 0],.int .i64 ((i+n:Nat):Int),.int .i64 0]) (by simp[results,results81,go_sem,r0,r1,r2,r3]) rfl ⟨by rw[HN.out],below_set4 HB0.out lrf _ _ _ _⟩
     ·rw[hg]at cd;have hld:ldC ch=true:=(by unfold ldC;rw[hl,hg];rfl);rw[List.takeWhile_cons,hld]at hnk;have HK:=Qh (show i+n=k+1+((s.drop (k+1)).takeWhile ldC).length by rw[hnk];simp;omega);clear hnk hd hl hg hld HX;go_wp2_with fail;with_reducible refine(cl _).mono ?_
      rintro e w2 ⟨rfl,rfl⟩;go_wp2_with fail;with_reducible refine(cd _).mono ?_
      rintro e w2 ⟨rfl,rfl⟩;go_wp2_with fail;go_roundw;case rel=>exact⟨k+1,by first|rfl|go_num,by omega,by omega,HK.out,by first|rfl|trivial⟩
      case measure=>(simp[intOf]<;>omega)
    ·rw[hl]at cl;have hld:ldC ch=true:=(by unfold ldC;rw[hl];rfl);rw[List.takeWhile_cons,hld]at hnk;have HK:=Qh (show i+n=k+1+((s.drop (k+1)).takeWhile ldC).length by rw[hnk];simp;omega);clear hnk hd hl hld HX;go_wp2_with fail;with_reducible refine(cl _).mono ?_
     rintro e w2 ⟨rfl,rfl⟩;go_wp2_with fail;go_roundw;case rel=>exact⟨k+1,by first|rfl|go_num,by omega,by omega,HK.out,by first|rfl|trivial⟩
     case measure=>(simp[intOf]<;>omega)
   ·obtain rfl:k=i+n:=by
     rw[List.drop_eq_nil_of_le (by omega)]at hnk;simpa using hnk.symm
    have hx:=HX.out;clear hnk HX;go_wp2_with fail;exact bodyPost_ret (v:=.tuple #[.agg #[.int .i64 1,.string ⟨nm.toArray⟩,.int .i64 0,.int .i64 0],.int .i64 ((i+n:Nat):Int),.int .i64 0]) (by simp[results,results81,go_sem,r0,r1,r2,r3]) rfl ⟨by rw[HN.out],below_set4 HB0.out lrf _ _ _ _⟩
 case false=>
  rw[hl,if_neg (by simp)]at hV;clear hl;have cA:=fun w=>at4_at s ((i:Int)+1) (i+1) (by omega) hs w
  have cD:=fun w=>digit4_any (atB s (i+1)).toNat w
  have HV:=Qh hV;obtain⟨bn,hbn⟩:∃ b,b=(dgU c.toNat || ((c == 43 || c == 45) && dgU (atB s (i+1)).toNat)):=⟨_,rfl⟩
  rw[← hbn]at HV HNUM;have HBN:=Qh hbn;clear hbn hV;generalize atB s (i+1)=c1 at *;go_upto_region 7 with fail
  go_cut [61] (fun x ws=>x=.bool bn∧ws=w1)
  case first=>
   clear HV HNUM HSZ HTX HHD HQL HQS HOL HNL HD;cases hg:dgU c.toNat
   ·rw[hg]at cd;by_cases e1:c=43
    ·have g1:=u8_eqT (k:=43) (by decide) e1;have HB:=Qh (show bn=dgU c1.toNat by rw[HBN.out,hg,e1];rfl);generalize dgU c1.toNat=b1 at *;clear HBN hg e1;go_wp2_with fail;with_reducible refine(cd _).mono ?_
     rintro e w2 ⟨rfl,rfl⟩;go_wp2_with fail;with_reducible refine(cA _).mono ?_
     rintro e w2 ⟨rfl,rfl⟩;go_wp2_with fail;with_reducible refine(cD _).mono ?_
     rintro e w2 ⟨rfl,rfl⟩;go_wp2_with fail;go_meet
     case rel=>exact⟨by rw[HB.out],rfl⟩
    ·have g1:=u8_eqF (k:=43) (by decide) e1;by_cases e2:c=45
     ·have g2:=u8_eqT (k:=45) (by decide) e2;have HB:=Qh (show bn=dgU c1.toNat by rw[HBN.out,hg,e2];rfl);generalize dgU c1.toNat=b1 at *;clear HBN hg e1 e2;go_wp2_with fail;with_reducible refine(cd _).mono ?_
      rintro e w2 ⟨rfl,rfl⟩;go_wp2_with fail;with_reducible refine(cA _).mono ?_
      rintro e w2 ⟨rfl,rfl⟩;go_wp2_with fail;with_reducible refine(cD _).mono ?_
      rintro e w2 ⟨rfl,rfl⟩;go_wp2_with fail;go_meet
      case rel=>exact⟨by rw[HB.out],rfl⟩
     ·have g2:=u8_eqF (k:=45) (by decide) e2;have HB:=Qh (show bn=false by rw[HBN.out,hg];simp[e1,e2]);clear HBN hg e1 e2 cA cD;go_wp2_with fail;with_reducible refine(cd _).mono ?_
      rintro e w2 ⟨rfl,rfl⟩;go_wp2_with fail;go_meet
      case rel=>exact⟨by rw[HB.out],rfl⟩
   ·rw[hg]at cd;have HB:=Qh (show bn=true by rw[HBN.out,hg];rfl);clear HBN hg cA cD;go_wp2_with fail;with_reducible refine(cd _).mono ?_
    rintro e w2 ⟨rfl,rfl⟩;go_wp2_with fail;go_meet
    case rel=>exact⟨by rw[HB.out],rfl⟩
  case rest=>
  obtain⟨rfl,rfl⟩:=hcut;obtain⟨w1,hw⟩:∃ x,x=wc:=⟨_,rfl⟩
  subst hw;clear cA cD cd HBN;have hV:=HV.out;clear HV;cases bn
  case true=>
   rw[if_pos rfl]at hV;obtain⟨q1,q2⟩:=HNUM.out rfl;have cN:=fun w=>number4_any s i hs hi q2 w
   rw[q1]at cN;have hx:=ext_midR s i (numN (s.drop i));have hnl:=HNL.out;clear q1 q2 HNUM HSZ HTX HHD HQL HQS HOL HNL HD;generalize hnn:numN (s.drop i)=n at *;generalize (s.drop i).take n=nm at *;clear hnn;go_wp2_with fail;with_reducible refine(cN _).mono ?_
   rintro e w2 ⟨K,b,rfl,rfl,hb1,hb2⟩;clear cN;cases b
   ·have h0:=hb2 rfl;have hn0:n=0:=(by unfold shN at h0;split at h0<;>omega);rw[if_pos hn0]at hV;have HN:=Qh (show V=.tuple #[.agg #[.int .i64 0,.string ⟨#[]⟩,.int .i64 0,.int .i64 0],.int .i64 0,.int .i64 8]from hV);clear hV hb1 hb2 h0 hn0 hx;go_wp2_with fail;exact bodyPost_ret (v:=.tuple #[.agg #[.int .i64 0,.string ⟨#[]⟩,.int .i64 0,.int .i64 0],.int .i64 0,.int .i64 8]) (by simp[results,results81,go_sem,r0,r1,r2,r3]) rfl ⟨by rw[HN.out],below_set4 HB0.out lrf _ _ _ _⟩
   ·obtain⟨rfl,h0⟩:=hb1 rfl;have hn0:n≠0:=fun h=>h0 (by unfold shN;rw[if_pos h])
    rw[if_neg hn0]at hV;have HN:=Qh (show V=.tuple #[.agg #[.int .i64 2,.string ⟨nm.toArray⟩,.int .i64 0,.int .i64 0],.int .i64 ((i+n:Nat):Int),.int .i64 0]from hV);have hsh:shN i n=i+n:=(by unfold shN;rw[if_neg hn0]);rw[hsh];clear hV hb1 hb2 h0 hn0 hsh;go_wp2_with fail;exact bodyPost_ret (v:=.tuple #[.agg #[.int .i64 2,.string ⟨nm.toArray⟩,.int .i64 0,.int .i64 0],.int .i64 ((i+n:Nat):Int),.int .i64 0]) (by simp[results,results81,go_sem,r0,r1,r2,r3]) rfl ⟨by rw[HN.out],below_set4 HB0.out lrf _ _ _ _⟩
  case false=>
   rw[if_neg (by simp)]at hV;clear HNUM HNL;by_cases e1:c=34
   ·rw[if_pos e1,HTX.out e1]at hV;have g1:=u8_eqT (k:=34) (by decide) e1;have cQ:=fun w=>quoted4_any s i hs hi w
    rw[show i+1=i+1 from rfl]at cQ;have hqs:=HQS.out;rw[hqs]at cQ;have hql:=HQL.out;clear HTX HSZ HHD HQL HQS HOL HD e1 hqs;cases hq:endQ false 1 (s.drop (i+1))with
    | none=>
     rw[hq]at cQ hV;have cQ2:∀ w,Calls prog 132 #[.string ⟨s.toArray⟩,.int .i64 (i:Nat)] w fun e w'=>e=.returned (.int .i64 0)∧w' = w:=cQ
     have HN:=Qh (show V=.tuple #[.agg #[.int .i64 0,.string ⟨#[]⟩,.int .i64 0,.int .i64 0],.int .i64 0,.int .i64 6]from hV);clear hq hV cQ hql;go_wp2_with fail;with_reducible refine(cQ2 _).mono ?_
     rintro e w2 ⟨rfl,rfl⟩;go_wp2_with fail;exact bodyPost_ret (v:=.tuple #[.agg #[.int .i64 0,.string ⟨#[]⟩,.int .i64 0,.int .i64 0],.int .i64 0,.int .i64 6]) (by simp[results,results81,go_sem,r0,r1,r2,r3]) rfl ⟨by rw[HN.out],below_set4 HB0.out lrf _ _ _ _⟩
    | some j=>
     rw[hq]at cQ hV;have hjl:=hql j hq;simp only at hV;have cQ2:∀ w,Calls prog 132 #[.string ⟨s.toArray⟩,.int .i64 (i:Nat)] w fun e w'=>e=.returned (.int .i64 ((i+(j+1):Nat):Int))∧w' = w:=cQ
     have hx:=ext_midR s i (j+1);have hlL:((s.drop i).take (j+1)).length≤1000000000:=(by rw[List.length_take,List.length_drop];omega);have cU:=fun w=>unquote3_any ((s.drop i).take (j+1)) hlL w
     have gk:((((i+(j+1):Nat):Int)) == 0)=false:=(by rw[beq_eq_false_iff_ne];omega);have hkb:i+(j+1)≤s.length:=(by omega);generalize (s.drop i).take (j+1)=L at *;have hik:(i:Int)≤((i+(j+1):Nat):Int):=(by omega);generalize hkk:i+(j+1)=k at *;clear hq cQ hql hlL;cases hu:unqL L with
     | bad m=>
      obtain⟨m1,m2⟩:=unq_bad_pos hu;rw[hu]at cU hV;have cU2:∀ w,Calls prog 133 #[.string ⟨L.toArray⟩] w fun e w'=>e=.returned (.tuple #[.string ⟨#[]⟩,.int .i64 (m:Nat)])∧Below w.heap.size w w':=cU
      simp only at hV;by_cases h5:m=5
      ·rw[if_pos h5]at hV;subst h5;have HN:=Qh (show V=.tuple #[.agg #[.int .i64 0,.string ⟨#[]⟩,.int .i64 0,.int .i64 0],.int .i64 0,.int .i64 5]from hV);clear hV cU hu;go_wp2_with fail;with_reducible refine(cQ2 _).mono ?_
       rintro e w2 ⟨rfl,rfl⟩;go_wp2_with fail;with_reducible refine(cU2 _).mono ?_
       rintro e w2 ⟨rfl,hb⟩;have HB2:=Qh (bstep HB0.out hb lrf);have hk2:=HK0.out.keep hb lrf;clear r0 r1 r2 r3 f0 f1 f2 f3 hb;obtain⟨⟨r0,r1,r2,r3⟩,f0,f1,f2,f3⟩:=hk2.four;go_wp2_with fail;exact bodyPost_ret (v:=.tuple #[.agg #[.int .i64 0,.string ⟨#[]⟩,.int .i64 0,.int .i64 0],.int .i64 0,.int .i64 5]) (by simp[results,results81,go_sem,r0,r1,r2,r3]) rfl ⟨by rw[HN.out],below_set4 HB2.out lrf _ _ _ _⟩
      ·rw[if_neg h5]at hV;have HN:=Qh (show V=.tuple #[.agg #[.int .i64 0,.string ⟨#[]⟩,.int .i64 0,.int .i64 0],.int .i64 0,.int .i64 6]from hV);have gm:((m:Int) == 5)=false:=(by rw[beq_eq_false_iff_ne];omega);have gm2:((m:Int) != 0)=true:=(by rw[bne_iff_ne];omega);clear hV cU hu h5;go_wp2_with fail;with_reducible refine(cQ2 _).mono ?_
       rintro e w2 ⟨rfl,rfl⟩;go_wp2_with fail;with_reducible refine(cU2 _).mono ?_
       rintro e w2 ⟨rfl,hb⟩;have HB2:=Qh (bstep HB0.out hb lrf);have hk2:=HK0.out.keep hb lrf;clear r0 r1 r2 r3 f0 f1 f2 f3 hb;obtain⟨⟨r0,r1,r2,r3⟩,f0,f1,f2,f3⟩:=hk2.four;go_wp2_with fail;exact bodyPost_ret (v:=.tuple #[.agg #[.int .i64 0,.string ⟨#[]⟩,.int .i64 0,.int .i64 0],.int .i64 0,.int .i64 6]) (by simp[results,results81,go_sem,r0,r1,r2,r3]) rfl ⟨by rw[HN.out],below_set4 HB2.out lrf _ _ _ _⟩
     | good tx=>
      rw[hu]at cU hV;have cU2:∀ w,Calls prog 133 #[.string ⟨L.toArray⟩] w fun e w'=>e=.returned (.tuple #[.string ⟨tx.toArray⟩,.int .i64 0])∧Below w.heap.size w w':=cU
      have HN:=Qh (show V=.tuple #[.agg #[.int .i64 3,.string ⟨tx.toArray⟩,.int .i64 0,.int .i64 0],.int .i64 (k:Nat),.int .i64 0]by rw[hV,← hkk];rfl);clear hV cU hu;go_wp2_with fail;with_reducible refine(cQ2 _).mono ?_
      rintro e w2 ⟨rfl,rfl⟩;go_wp2_with fail;with_reducible refine(cU2 _).mono ?_
      rintro e w2 ⟨rfl,hb⟩;have HB2:=Qh (bstep HB0.out hb lrf);have hk2:=HK0.out.keep hb lrf;clear r0 r1 r2 r3 f0 f1 f2 f3 hb;obtain⟨⟨r0,r1,r2,r3⟩,f0,f1,f2,f3⟩:=hk2.four;go_wp2_with fail;exact bodyPost_ret (v:=.tuple #[.agg #[.int .i64 3,.string ⟨tx.toArray⟩,.int .i64 0,.int .i64 0],.int .i64 (k:Nat),.int .i64 0]) (by simp[results,results81,go_sem,r0,r1,r2,r3]) rfl ⟨by rw[HN.out],below_set4 HB2.out lrf _ _ _ _⟩
   ·rw[if_neg e1]at hV;have g1:=u8_eqF (k:=34) (by decide) e1;have cS:=fun w=>sign4_any s i hs hi w
    rw[HSZ.out]at cS;clear HTX HQL HQS e1 HSZ;by_cases hsu:sgU c.toNat=true
    ·rw[if_pos hsu]at hV;simp only[if_pos hsu]at cS;have hx:=ext_midR s i 1;rw[HHD.out]at hx;have gk:((((i+1:Nat):Int)) == 0)=false:=(by rw[beq_eq_false_iff_ne];omega);have HN:=Qh (show V=.tuple #[.agg #[.int .i64 4,.string ⟨[c].toArray⟩,.int .i64 0,.int .i64 0],.int .i64 ((i+1:Nat):Int),.int .i64 0]from hV);clear hV hsu HHD HOL HD;go_wp2_with fail;with_reducible refine(cS _).mono ?_
     rintro e w2 ⟨rfl,hb⟩;have HB2:=Qh (bstep HB0.out hb lrf);have hk2:=HK0.out.keep hb lrf;clear r0 r1 r2 r3 f0 f1 f2 f3 hb;obtain⟨⟨r0,r1,r2,r3⟩,f0,f1,f2,f3⟩:=hk2.four;go_wp2_with fail;exact bodyPost_ret (v:=.tuple #[.agg #[.int .i64 4,.string ⟨[c].toArray⟩,.int .i64 0,.int .i64 0],.int .i64 ((i+1:Nat):Int),.int .i64 0]) (by simp[results,results81,go_sem,r0,r1,r2,r3]) rfl ⟨by rw[HN.out],below_set4 HB2.out lrf _ _ _ _⟩
    ·rw[if_neg hsu]at hV;simp only[if_neg hsu]at cS;by_cases ho:ordB (s.drop i)=true
     ·rw[if_pos ho]at hV;simp only[if_pos ho]at cS;have hx:=ext_midR s i 3;have hkb:=HOL.out ho;generalize (s.drop i).take 3=L at *;have gk:((((i+3:Nat):Int)) == 0)=false:=(by rw[beq_eq_false_iff_ne];omega);have HN:=Qh (show V=.tuple #[.agg #[.int .i64 4,.string ⟨L.toArray⟩,.int .i64 0,.int .i64 0],.int .i64 ((i+3:Nat):Int),.int .i64 0]from hV);clear hV hsu HHD HOL HD ho;go_wp2_with fail;with_reducible refine(cS _).mono ?_
      rintro e w2 ⟨rfl,hb⟩;have HB2:=Qh (bstep HB0.out hb lrf);have hk2:=HK0.out.keep hb lrf;clear r0 r1 r2 r3 f0 f1 f2 f3 hb;obtain⟨⟨r0,r1,r2,r3⟩,f0,f1,f2,f3⟩:=hk2.four;go_wp2_with fail;exact bodyPost_ret (v:=.tuple #[.agg #[.int .i64 4,.string ⟨L.toArray⟩,.int .i64 0,.int .i64 0],.int .i64 ((i+3:Nat):Int),.int .i64 0]) (by simp[results,results81,go_sem,r0,r1,r2,r3]) rfl ⟨by rw[HN.out],below_set4 HB2.out lrf _ _ _ _⟩
     ·rw[if_neg ho]at hV;simp only[if_neg ho]at cS;have cS2:∀ w:World,Calls prog 134 #[.string ⟨s.toArray⟩,.int .i64 (i:Nat)] w fun e w'=>e=.returned (.int .i64 0)∧Below w.heap.size w w':=cS
      have HN:=Qh (show V=.tuple #[.agg #[.int .i64 0,.string ⟨#[]⟩,.int .i64 0,.int .i64 0],.int .i64 0,.int .i64 7]from hV);clear hV hsu HHD HOL HD ho cS;go_wp2_with fail;with_reducible refine(cS2 _).mono ?_
      rintro e w2 ⟨rfl,hb⟩;have HB2:=Qh (bstep HB0.out hb lrf);have hk2:=HK0.out.keep hb lrf;clear r0 r1 r2 r3 f0 f1 f2 f3 hb;obtain⟨⟨r0,r1,r2,r3⟩,f0,f1,f2,f3⟩:=hk2.four;go_wp2_with fail;exact bodyPost_ret (v:=.tuple #[.agg #[.int .i64 0,.string ⟨#[]⟩,.int .i64 0,.int .i64 0],.int .i64 0,.int .i64 7]) (by simp[results,results81,go_sem,r0,r1,r2,r3]) rfl ⟨by rw[HN.out],below_set4 HB2.out lrf _ _ _ _⟩
end Go.Proofs.YtlacjhjckkablaaGreatDoor
