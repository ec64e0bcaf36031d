/-
  strings.ContainsRune at the signs: contract, at every rune.
-/
import Derived.Test.YtfflljgnpfldfaaGreatDoorChrE
import Derived.Test.YtfflljgnpfldfaaGreatDoorAtF
set_option linter.all false
set_option maxHeartbeats 128000000
set_option maxRecDepth 100000
namespace Go.Proofs.YtfflljgnpfldfaaGreatDoor
open Go.Proofs.Tryz
open Go.RowKit Go.Shelf
theorem aeI (n:Int) (w:World) :
  Calls prog 100 #[.nilIface,.iface 100 (.int .i64 n)] w fun e w'=>e=.returned (.bool false)∧w' = w:=by
 exact abB
theorem aeJ (L:List UInt8) (j:Nat):(⟨L.toArray⟩:ByteArray).extract 0 j=⟨(L.take j).toArray⟩:=by
 refine Us ?_;intro h
 apply h;rw[Go.Lib.extract_data];show(L.drop 0).take (j - 0)=L.take j;rw[List.drop_zero,Nat.sub_zero]
theorem ai.four {w:World} {k:Nat} {a b c d:Value} (h:ai w k #[a,b,c,d]):(w.cell? ⟨k,0,none⟩=some a∧w.cell? ⟨k,1,none⟩=some b∧w.cell? ⟨k,2,none⟩=some c∧w.cell? ⟨k,3,none⟩=some d)∧w.frozen? ⟨k,0,none⟩=false∧w.frozen? ⟨k,1,none⟩=false∧w.frozen? ⟨k,2,none⟩=false∧w.frozen? ⟨k,3,none⟩=false:=
 ⟨⟨h.cell 0 _ rfl,h.cell 1 _ rfl,h.cell 2 _ rfl,h.cell 3 _ rfl⟩,h.free 0,h.free 1,h.free 2,h.free 3⟩
theorem gp {B k:Nat} {w W:World} (h:Below B w W) (hk:B≤k) (a b c d:Value):Below B w ((((W.setCell ⟨k,0,none⟩ a).setCell ⟨k,1,none⟩ b).setCell ⟨k,2,none⟩ c).setCell ⟨k,3,none⟩ d):=
 (((h.setCell (p:=⟨k,0,none⟩) hk _).setCell (p:=⟨k,1,none⟩) hk _).setCell (p:=⟨k,2,none⟩) hk _).setCell (p:=⟨k,3,none⟩) hk _
def qj (k:Int) (t:List UInt8) (p:Int×Int):Value:=.agg #[.int .i64 k,.string ⟨t.toArray⟩,.int .i64 p.1,.int .i64 p.2]
def gI (n:Nat):Value:=.tuple #[qj 0 [] (0,0),.int .i64 0,.int .i64 (n:Nat)]
def iq (k:Int) (t:List UInt8) (n:Nat):Value:=.tuple #[qj k t (0,0),.int .i64 (n:Nat),.int .i64 0]
def sA (s:List UInt8):Option Nat→Value
 | none=>gI 6
 | some i=>match uN (s.take (i+1))with
  | .bad n=>if n=5 then gI 5 else gI 6
  | .good t=>iq 3 t (i+1)
def D8 (s:List UInt8):Value:=sA s (eQ false 1 (s.drop 1))
theorem ang (s:List UInt8) (hs:s.length≤1000000000) (hq:s.head? = some 34) (w:World) (hT:xP w) :
  Calls prog 136 #[.string ⟨s.toArray⟩] w fun e w'=>e=.returned (D8 s)∧Below w.heap.size w w':=by
 obtain⟨V,hV⟩:∃ V,V=D8 s:=⟨_,rfl⟩
 rw[← hV];refine aY hV hT hq ?_;intro HV HT HQ;clear hV hT hq;have hb0:Below w.heap.size w ((w.alloc (.cells #[.int .i64 0,.string ⟨#[]⟩,.int .i64 0,.int .i64 0] 129)).iter ⟨s.toArray⟩ 0):=((aC _ w).alloc af _).alloc aB _;have zT:ai ((w.alloc (.cells #[.int .i64 0,.string ⟨#[]⟩,.int .i64 0,.int .i64 0] 129)).iter ⟨s.toArray⟩ 0) w.heap.size #[.int .i64 0,.string ⟨#[]⟩,.int .i64 0,.int .i64 0]:=(ai.new w #[.int .i64 0,.string ⟨#[]⟩,.int .i64 0,.int .i64 0] 129).alloc _;have oz:((w.alloc (.cells #[.int .i64 0,.string ⟨#[]⟩,.int .i64 0,.int .i64 0] 129)).iter ⟨s.toArray⟩ 0).heap[w.heap.size+1]? = some (.stringIter ⟨s.toArray⟩ 0):=by
  have:=Dl (w.alloc (.cells #[.int .i64 0,.string ⟨#[]⟩,.int .i64 0,.int .i64 0] 129)) ⟨s.toArray⟩ 0
  rwa [jW]at this
 go_enter func136,ntmps136
 go_wp2_with fail;generalize (w.alloc (.cells #[.int .i64 0,.string ⟨#[]⟩,.int .i64 0,.int .i64 0] 129)).iter ⟨s.toArray⟩ 0=W0 at *;go_loopw [5] (fun x wr=>∃ (k:Nat) (tk:Bool),x=.bool tk∧k≤s.length∧wr.heap[w.heap.size+1]? = some (.stringIter ⟨s.toArray⟩ k)∧ai wr w.heap.size #[.int .i64 0,.string ⟨#[]⟩,.int .i64 0,.int .i64 0]∧Below w.heap.size w wr∧(k=0→tk=false)∧(0 < k→V=sA s (eQ tk k (s.drop k))))
  (fun _ wr=>s.length - wr.iterPos (w.heap.size+1))
 case atStart=>exact⟨0,false,rfl,bV _,oz,zT,hb0,fun _=>rfl,fun h=>absurd h (Dn _)⟩
 case round=>
  clear oz zT hb0;obtain⟨k,tk,rfl,hk,hit,bO,bh,hz,hr⟩:=hrel;refine aY hz hr (rU hit:wr.iterPos (w.heap.size+1)=k) ?_;intro HZ HR HM;clear hz hr;by_cases hlt:k < s.length
  ·have hd:=jq hlt;have tL:=Qh (fun (h:(ay (s.drop k)).1 < 128)=>(by rw[hd]at h ⊢;exact Jy _ _ h:ay (s.drop k)=(s[k].toNat,1)∧s[k].toNat < 128));have fR:k < (⟨s.toArray⟩:ByteArray).size:=hlt;refine Hv ?_;intro hne;refine abY ?_;intro dW
   obtain⟨n1,n2,n3⟩:=pd (s.drop k);replace n3:=n3 hne;rw[e7]at n3;have oC:=Dm wr (w.heap.size+1) ⟨s.toArray⟩ k (k+(ay (s.drop k)).2) hit;have pY:=BB bh (k:=w.heap.size+1) ae ⟨s.toArray⟩ (k+(ay (s.drop k)).2);have rq:ai (wr.iterAt (w.heap.size+1) ⟨s.toArray⟩ (k+(ay (s.drop k)).2)) w.heap.size _:=bO.same (Fw _ _ _ _ _ ae);have Gh:=Qh (fun (b:Bool) (h:128≤(ay (s.drop k)).1)=>anh b k (s.drop k) hne h);clear bh bO hit fR hne;refine fx hd pY oC rq ?_;clear hd pY oC rq;intro HD bE om df;by_cases hk0:k=0
   ·
    subst hk0;have iJ:=HZ.o rfl;subst iJ;have gy:s[0]=34:=by
     have:=HQ.o;rw[List.head?_eq_getElem?,kC hlt]at this;exact Option.some.inj this
    have hdec:ay (s.drop 0)=(34,1):=by
     have:=Jv s[0] (s.drop (0+1)) (by rw[gy];decide);rw[← HD.o,gy]at this;exact this
    have rC:=Qh (show V=sA s (eQ false (0+1) (s.drop (0+1)))from HV.o);rw[hdec]at dW om bE df;simp only at dW om bE df;clear HD tL Gh n1 n2 n3 HV gy hdec HR HZ;generalize wr.iterAt (w.heap.size+1) ⟨s.toArray⟩ (0+1)=wv at *;go_wp2_with fail;go_roundw;case rel=>exact⟨0+1,false,rfl,ae,om.o,df.o,bE.o,fun h=>ae,fun _=>rC.o⟩
    case measure=>exact Lr
   ·have cY:=HR.o ae;have gk0:((k:Int) == 0)=false:=ft;clear HZ HR HV hk0;cases tk
    ·
     by_cases lL:(ay (s.drop k)).1=92
     ·obtain⟨he,hlo⟩:=tL.o ae;have hc:s[k]=92:=UInt8.toNat.inj (by have e:UInt8.toNat 92=92:=rfl;rw[e,← lL,he]);rw[he]at dW om bE df n1 n2 n3;rw[he]at lL;simp only at dW om bE df n1 n2 n3 lL;have rC:=Qh (show V=sA s (eQ true (k+1) (s.drop (k+1)))by
       rw[cY,HD.o,hc];rfl)
      have g92:((92:Int) == 92)=true:=rfl;rw[lL]at dW;clear HD tL Gh cY he hlo hc lL;generalize wr.iterAt (w.heap.size+1) ⟨s.toArray⟩ (k+1)=wv at *;go_wp2_with fail;go_roundw;case rel=>exact⟨k+1,true,rfl,ae,om.o,df.o,bE.o,fun h=>ae,fun _=>rC.o⟩
      case measure=>exact Lr
     ·have g92:(((ay (s.drop k)).1:Int) == 92)=false:=ft;by_cases gy:(ay (s.drop k)).1=34
      ·
       obtain⟨he,hlo⟩:=tL.o ae;have hc:s[k]=34:=UInt8.toNat.inj (by have e:UInt8.toNat 34=34:=rfl;rw[e,← gy,he]);rw[he]at dW om bE df;rw[he]at gy;simp only at dW om bE df gy;have rC:=Qh (show V=sA s (some k)by rw[cY,HD.o,hc];rfl);rw[gy]at dW;have hx:=aeJ s (k+1);have cu:=fun w hT=>akx (s.take (k+1)) Fe w hT
       clear HD tL Gh cY he hlo hc gy g92 n1 n2 n3;generalize wr.iterAt (w.heap.size+1) ⟨s.toArray⟩ (k+1)=wv at *;go_wp2_with fail;refine aQ (cu _ (HT.o.keep bE.o)) ?_;intro w2 hb2
       have MO:=Qh (df.o.keep hb2 af);have vA:=Qh (aH bE.o hb2 af);clear hb2 cu hx;obtain⟨⟨r0,r1,r2,r3⟩,f0,f1,f2,f3⟩:=MO.o.four;have hV2:=rC.o;unfold sA at hV2;simp only at hV2;cases hu:uN (s.take (k+1))with
       | bad n=>
        rw[hu]at hV2;simp only at hV2;have ci:=fun w=>Q5 (n:Int) 5 w
        unfold xR dE;by_cases h5:n=5
        ·have HN:=Qh (show V=gI 5 by rw[hV2,if_pos h5]);rw[show((n:Int) == 5)=true by rw[dZ];omega]at ci;clear hu hV2 h5 rC;go_wp2_with fail;refine aI (ci _) ?_
         rintro e w3 ⟨rfl,rfl⟩;go_wp2_with fail;exact bB (v:=gI 5) U6 rfl ⟨fV,gp vA.o af _ _ _ _⟩
        ·have HN:=Qh (show V=gI 6 by rw[hV2,if_neg h5]);rw[show((n:Int) == 5)=false by rw[gT];omega]at ci;clear hu hV2 h5 rC;go_wp2_with fail;refine aI (ci _) ?_
         rintro e w3 ⟨rfl,rfl⟩;go_wp2_with fail;exact bB (v:=gI 6) U6 rfl ⟨fV,gp vA.o af _ _ _ _⟩
       | good l=>
        rw[hu]at hV2;simp only at hV2;have HN:=Qh (show V=iq 3 l (k+1)from hV2);have ci:=fun w=>aeI 5 w
        unfold xR;clear hu hV2 rC;go_wp2_with fail;refine aI (ci _) ?_
        rintro e w3 ⟨rfl,rfl⟩;go_wp2_with fail;exact bB (v:=iq 3 l (k+1)) (by simp[results,results136,go_sem,r0,r1,r2,r3,iq,qj]) rfl ⟨fV,gp vA.o af _ _ _ _⟩
      ·have zU:(((ay (s.drop k)).1:Int) == 34)=false:=ft;have rC:=Qh (show V=sA s (eQ false (k+(ay (s.drop k)).2) (s.drop (k+(ay (s.drop k)).2)))by
        rw[cY];by_cases hlo:(ay (s.drop k)).1 < 128
        ·obtain⟨he,hl⟩:=tL.o hlo;rw[he];rw[he]at lL gy;show sA s (eQ false k (s.drop k))=sA s (eQ false (k+1) (s.drop (k+1)));rw[HD.o];show sA s (if s[k]=92 then _ else if s[k]=34 then _ else _)=_;rw[if_neg (by intro h;apply lL;rw[h];rfl),if_neg (by intro h;apply gy;rw[h];rfl)]
        ·rw[Gh.o false ae,lG])
       clear HD tL Gh cY lL gy;generalize (ay (s.drop k)).1=R at *;generalize (ay (s.drop k)).2=N at *;generalize wr.iterAt (w.heap.size+1) ⟨s.toArray⟩ (k+N)=wv at *;go_wp2_with fail;go_roundw;case rel=>exact⟨k+N,false,rfl,ae,om.o,df.o,bE.o,fun h=>ae,fun _=>rC.o⟩
       case measure=>exact Lr
    ·have rC:=Qh (show V=sA s (eQ false (k+(ay (s.drop k)).2) (s.drop (k+(ay (s.drop k)).2)))by
      rw[cY];by_cases hlo:(ay (s.drop k)).1 < 128
      ·obtain⟨he,hl⟩:=tL.o hlo;rw[he];show sA s (eQ true k (s.drop k))=sA s (eQ false (k+1) (s.drop (k+1)));rw[HD.o];rfl
      ·rw[Gh.o true ae,lG])
     clear HD tL Gh cY;generalize (ay (s.drop k)).1=R at *;generalize (ay (s.drop k)).2=N at *;generalize wr.iterAt (w.heap.size+1) ⟨s.toArray⟩ (k+N)=wv at *;go_wp2_with fail;go_roundw;case rel=>exact⟨k+N,false,rfl,ae,om.o,df.o,bE.o,fun h=>ae,fun _=>rC.o⟩
     case measure=>exact Lr
  ·have cz:k=s.length:=ae;have hne:0 < s.length:=by
    have:=HQ.o;rcases s with _|⟨a,t⟩
    ·cases this
    ·simp
   have HN:=Qh (show V=gI 6 by
    rw[HR.o ae,cz,qZ,Ce];rfl)
   have fR:¬ k < (⟨s.toArray⟩:ByteArray).size:=hlt;have dW:∀ ty,(Instr.next (.pointer (some ⟨w.heap.size+1,0,none⟩)) true ty).run prog wr=_:=fun ty=>IF wr (w.heap.size+1) ⟨s.toArray⟩ k ty hit fR
   have bE:=Qh bh;obtain⟨⟨r0,r1,r2,r3⟩,f0,f1,f2,f3⟩:=bO.four;clear fR cz bh hne HR HZ HV;go_wp2_with fail;exact bB (v:=gI 6) U6 rfl ⟨fV,gp bE.o af _ _ _ _⟩
def nQ:List UInt8:=[58,124,40,41,91,93,44,59]
def oK (r:Nat):Bool:=r == 58 || r == 124 || r == 40 || r == 41 || r == 91 || r == 93 || r == 44 || r == 59
theorem ani:(List.range 128).all (fun r=>decide (0≤Lib.indexByte nQ ((r:Int).toNat.toUInt8)) == oK r)=true:=by decide +kernel
theorem anj {r:Nat} (h:128≤r):oK r=false:=by
 unfold oK;simp only[Bt,gT];omega
theorem ank (r:Nat) (h1:128≤r) (h2:r < 55296∨57344≤r) (h3:r≤1114111) :
  (∃ x b:UInt8,Utf8.encode (r:Int)=⟨#[x,b]⟩∧128≤b.toNat)∨(∃ x y b:UInt8,Utf8.encode (r:Int)=⟨#[x,y,b]⟩∧128≤b.toNat)∨(∃ x y z b:UInt8,Utf8.encode (r:Int)=⟨#[x,y,z,b]⟩∧128≤b.toNat):=by
 have hv:Utf8.valid (r:Int)=true:=(by unfold Utf8.valid;simp;omega);have hb:∀ m:Nat,m < 128→128≤(UInt8.ofNat (128+m)).toNat:=fun m hm=>by rw[Fm (by show 128+m < 256;omega)];omega
 unfold Utf8.encode;simp only[hv,kG,Int.toNat_natCast];rw[if_neg ae];split
 ·exact .inl ⟨_,_,rfl,hb _ ae⟩
 split
 ·exact .inr (.inl ⟨_,_,_,rfl,hb _ ae⟩)
 ·exact .inr (.inr ⟨_,_,_,_,rfl,hb _ ae⟩)
theorem aeK:∀ (l:List UInt8) (b:UInt8),b ∉ l→Lib.indexByte l b = -1
 | [],b,_=>rfl
 | c::l,b,h=>by
  show(if (c == b)=true then _ else if (Lib.indexByte l b == -1)=true then _ else _)=_;rw[if_neg (by rw[dZ];rintro rfl;exact h (List.mem_cons_self ..)),aeK l b (fun h2=>h (Dj _ h2)),if_pos ah]
theorem anl (k:Nat) (hk:k < 8):∃ c:Nat,c < 128∧ay (nQ.drop k)=(c,1):=by
 have hlt:k < nQ.length:=hk;rw[jq hlt];have:nQ[k].toNat < 128:=by
  have h:∀ c∈nQ,c.toNat < 128:=ah;exact h _ (gU hlt)
 exact⟨_,this,Jv _ _ this⟩
theorem anm (r:Nat) (h1:128≤r) (h2:r < 55296∨57344≤r) (h3:r≤1114111) (w:World) :
  Calls prog 170 #[.string ⟨#[58,124,40,41,91,93,44,59]⟩,.int .i32 (r:Nat)] w fun e w'=>e=.returned (.int .i64 (-1))∧Below w.heap.size w w':=by
 have i0:(0:Int)≤r:=ae;have i1:¬ (r:Int) < 128:=ae;by_cases hr:r=65533
 ·subst hr;have oz:=Dl w ⟨#[58,124,40,41,91,93,44,59]⟩ 0;have hb0:Below w.heap.size w (w.iter ⟨#[58,124,40,41,91,93,44,59]⟩ 0):=(aC _ _).alloc af _;go_enter func170,ntmps170
  go_wp2_with fail;generalize w.iter ⟨#[58,124,40,41,91,93,44,59]⟩ 0=V at *;go_loopw [] (fun wr=>∃ k:Nat,k≤8∧wr.heap[w.heap.size]? = some (.stringIter ⟨#[58,124,40,41,91,93,44,59]⟩ k)∧Below w.heap.size w wr) (fun wr=>8 - wr.iterPos w.heap.size)
  case atStart=>exact⟨0,ae,oz,hb0⟩
  case round=>
   clear oz hb0;obtain⟨k,hk,hit,bh⟩:=hrel;have HM:=Qh (rU hit:wr.iterPos w.heap.size=k);by_cases hlt:k < 8
   ·have dW:∀ ty,(Instr.next (.pointer (some ⟨w.heap.size,0,none⟩)) true ty).run prog wr=_:=fun ty=>Lib.run_next_any_at wr w.heap.size ⟨#[58,124,40,41,91,93,44,59]⟩ k ty hit hlt
    obtain⟨c,hc,hd⟩:=anl k hlt;have p6:Utf8.decode ⟨#[58,124,40,41,91,93,44,59]⟩ k=(c,1):=(Ba nQ k).trans hd;rw[p6]at dW;have om:=Qh (Dm wr w.heap.size ⟨#[58,124,40,41,91,93,44,59]⟩ k (k+1) hit);have bE:=Qh (BB bh (k:=w.heap.size) af ⟨#[58,124,40,41,91,93,44,59]⟩ (k+1));have g:((c:Int) == 65533)=false:=ft;simp only at dW;clear hd p6 hit bh hc;generalize wr.iterAt w.heap.size ⟨#[58,124,40,41,91,93,44,59]⟩ (k+1)=wv at *;go_wp2_with fail;go_roundw;case rel=>exact⟨k+1,ae,om.o,bE.o⟩
    case measure=>exact Lr
   ·have dW:∀ ty,(Instr.next (.pointer (some ⟨w.heap.size,0,none⟩)) true ty).run prog wr=_:=fun ty=>IF wr w.heap.size ⟨#[58,124,40,41,91,93,44,59]⟩ k ty hit hlt
    go_wp2_with fail;go_ret;exact⟨rfl,bh⟩
 ·have g1:((r:Int) == 65533)=false:=ft;have cv:=fun w=>Tryz.utf8_ValidRune (r:Int) w
  rw[show Lib.validRune (r:Int)=true by unfold Lib.validRune;rw[rR];omega]at cv;have DJ:∀ b:UInt8,128≤b.toNat→b ∉ nQ:=fun b hb h=>by
   have h2:∀ c∈nQ,c.toNat < 128:=ah;have:=h2 b h;omega
  have nR:∀ (b:UInt8) (j:Nat),128≤b.toNat→Lib.indexByte (nQ.drop j) b = -1:=fun b j hb=>aeK _ _ (fun h=>DJ b hb (List.mem_of_mem_drop h))
  have JA:=Qh nR;have cib:=fun (s:List UInt8) (b:UInt8) w=>Tryz.strings_IndexByte ⟨s.toArray⟩ (b.toNat:Int) w
  have JB:=Qh cib;have ann:=ank r h1 h2 h3;clear nR DJ cib hr h1 h2 h3;rcases ann with ⟨x,b,he,hb⟩|⟨x,y,b,he,hb⟩|⟨x,y,z,b,he,hb⟩
  ·have ci:∀ w,Calls prog 186 #[.string ⟨#[40,41,91,93,44,59]⟩,.int .u8 (b.toNat:Nat)] w fun e w'=>e=.returned (.int .i64 (-1))∧w' = w:=fun w=>by
    have h:=JB.o (nQ.drop 2) b w;rw[show(Int.toNat (b.toNat:Int)).toUInt8=b by rw[Int.toNat_natCast];exact UInt8.ofNat_toNat,show(⟨(nQ.drop 2).toArray⟩:ByteArray).data.toList=nQ.drop 2 from rfl,JA.o b 2 hb]at h;exact h
   have hx:(⟨#[58,124,40,41,91,93,44,59]⟩:ByteArray).extract 2 8=⟨#[40,41,91,93,44,59]⟩:=by
    have:=FR nQ 2 ah;exact this
   have q1:((⟨#[58,124,40,41,91,93,44,59]⟩:ByteArray)[1]' ah).toNat=124:=rfl;have q2:(⟨#[x,b]⟩:ByteArray)[1]'(Nat.lt_succ_self _)=b:=rfl;have g2:((124:Int) != (b.toNat:Int))=true:=vH;clear JB JA;go_enter func170,ntmps170
   go_wp2_with fail;refine aI (cv _) ?_
   rintro e w1 ⟨rfl,rfl⟩;go_wp2_with fail;go_step3
   go_wp2_with fail;refine CX ?_;go_wp2_with fail;try (go_step3;go_wp2_with fail)
   refine rL ?_
   repeat (go_big_quiet_step (fail))
   refine uk ?_;intro xx;have bX:=Qh xx.below;generalize xx.w=w2 at *;go_wp2_with fail;refine rL ?_
   repeat (go_big_quiet_step ((go_at_call 186;with_reducible exact aW.same (ci _))))
   exact Uf
  ·have ci:∀ w,Calls prog 186 #[.string ⟨#[41,91,93,44,59]⟩,.int .u8 (b.toNat:Nat)] w fun e w'=>e=.returned (.int .i64 (-1))∧w' = w:=fun w=>by
    have h:=JB.o (nQ.drop 3) b w;rw[show(Int.toNat (b.toNat:Int)).toUInt8=b by rw[Int.toNat_natCast];exact UInt8.ofNat_toNat,show(⟨(nQ.drop 3).toArray⟩:ByteArray).data.toList=nQ.drop 3 from rfl,JA.o b 3 hb]at h;exact h
   have hx:(⟨#[58,124,40,41,91,93,44,59]⟩:ByteArray).extract 3 8=⟨#[41,91,93,44,59]⟩:=by
    have:=FR nQ 3 ah;exact this
   have q1:((⟨#[58,124,40,41,91,93,44,59]⟩:ByteArray)[2]' ah).toNat=40:=rfl;have q2:(⟨#[x,y,b]⟩:ByteArray)[2]'(Nat.lt_succ_self _)=b:=rfl;have g2:((40:Int) != (b.toNat:Int))=true:=vH;clear JB JA;go_enter func170,ntmps170
   go_wp2_with fail;refine aI (cv _) ?_
   rintro e w1 ⟨rfl,rfl⟩;go_wp2_with fail;go_step3
   go_wp2_with fail;refine CX ?_;go_wp2_with fail;try (go_step3;go_wp2_with fail)
   refine rL ?_
   repeat (go_big_quiet_step (fail))
   refine uk ?_;intro xx;have bX:=Qh xx.below;generalize xx.w=w2 at *;go_wp2_with fail;refine rL ?_
   repeat (go_big_quiet_step ((go_at_call 186;with_reducible exact aW.same (ci _))))
   exact Uf
  ·have ci:∀ w,Calls prog 186 #[.string ⟨#[91,93,44,59]⟩,.int .u8 (b.toNat:Nat)] w fun e w'=>e=.returned (.int .i64 (-1))∧w' = w:=fun w=>by
    have h:=JB.o (nQ.drop 4) b w;rw[show(Int.toNat (b.toNat:Int)).toUInt8=b by rw[Int.toNat_natCast];exact UInt8.ofNat_toNat,show(⟨(nQ.drop 4).toArray⟩:ByteArray).data.toList=nQ.drop 4 from rfl,JA.o b 4 hb]at h;exact h
   have hx:(⟨#[58,124,40,41,91,93,44,59]⟩:ByteArray).extract 4 8=⟨#[91,93,44,59]⟩:=by
    have:=FR nQ 4 ah;exact this
   have q1:((⟨#[58,124,40,41,91,93,44,59]⟩:ByteArray)[3]' ah).toNat=41:=rfl;have q2:(⟨#[x,y,z,b]⟩:ByteArray)[3]'(Nat.lt_succ_self _)=b:=rfl;have g2:((41:Int) != (b.toNat:Int))=true:=vH;clear JB JA;go_enter func170,ntmps170
   go_wp2_with fail;refine aI (cv _) ?_
   rintro e w1 ⟨rfl,rfl⟩;go_wp2_with fail;go_step3
   go_wp2_with fail;refine CX ?_;go_wp2_with fail;try (go_step3;go_wp2_with fail)
   refine rL ?_
   repeat (go_big_quiet_step (fail))
   refine uk ?_;intro xx;have bX:=Qh xx.below;generalize xx.w=w2 at *;go_wp2_with fail;refine rL ?_
   repeat (go_big_quiet_step ((go_at_call 186;with_reducible exact aW.same (ci _))))
   exact Uf
theorem ano (r:Nat) (h2:r < 55296∨57344≤r) (h3:r≤1114111) (w:World) :
  Calls prog 137 #[.string ⟨#[58,124,40,41,91,93,44,59]⟩,.int .i32 (r:Nat)] w fun e w'=>e=.returned (.bool (oK r))∧Below w.heap.size w w':=by
 by_cases h:r < 128
 ·have hc:=Tryz.strings_ContainsRune_ascii ⟨#[58,124,40,41,91,93,44,59]⟩ (r:Int) w ae ae;have hs:=List.all_eq_true.1 ani r (List.mem_range.2 h);rw[dZ]at hs;refine hc.mono fun e w' ⟨h1,h2⟩=>⟨?_,by rw[h2];exact aC _ _⟩
  rw[h1,← hs];rfl
 ·have ci:=anm r ae h2 h3;rw[anj ae];clear h h2 h3;go_enter func137,ntmps137
  go_wp2_with fail;refine qT (ci _) ?_;intro w1 HB
  exact ui
end Go.Proofs.YtfflljgnpfldfaaGreatDoor
