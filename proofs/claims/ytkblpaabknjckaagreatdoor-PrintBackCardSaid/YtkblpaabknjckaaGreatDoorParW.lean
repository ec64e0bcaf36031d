/-
  rat's read: contract.
-/
import Derived.Test.YtkblpaabknjckaaGreatDoorBaseD
import Derived.Test.YtkblpaabknjckaaGreatDoorParR
import Derived.Test.YtkblpaabknjckaaGreatDoorParS
import Derived.Test.YtkblpaabknjckaaGreatDoorRatD
import Derived.Test.YtkblpaabknjckaaGreatDoorRefO
set_option maxHeartbeats 128000000
set_option linter.unusedVariables false
namespace Go.Proofs.YtkblpaabknjckaaGreatDoor
open Go.Proofs.Tryz
open Go.RowKit
def ReadOK (R:Option (Bool×List UInt8×Int)) (neg:Bool) (d:List UInt8) (p:Int) (b:Bool):Prop:=
 match R with
 | none=>b=false
 | some (n',d',p')=>b=true∧neg=n'∧d=d'∧p=p'
theorem conv_digU:∀ (q:Nat) (h:q < 10) (w:World),(convert 5 9 (.int .u8 (48+(q:Int)))).run prog w=.ok (.string ⟨#[dgt q]⟩) w
 | 0,_,w=>by kernel_rfl
 | 1,_,w=>by kernel_rfl
 | 2,_,w=>by kernel_rfl
 | 3,_,w=>by kernel_rfl
 | 4,_,w=>by kernel_rfl
 | 5,_,w=>by kernel_rfl
 | 6,_,w=>by kernel_rfl
 | 7,_,w=>by kernel_rfl
 | 8,_,w=>by kernel_rfl
 | 9,_,w=>by kernel_rfl
 | n+10,h,_=>absurd h (by omega)
theorem not_signs {m:Int} (h:48≤m∧m≤57):(m == 43)=false∧(m == 45)=false∧(m == 46)=false∧(m == 101)=false∧(m == 69)=false∧¬ m < 48∧¬ 57 < m:=by
 simp only[beq_eq_false_iff_ne];omega
theorem ne_bool {m k:Int} (h:m≠k):(m == k)=false:=by rw[beq_eq_false_iff_ne];exact h
set_option maxRecDepth 100000 in theorem read_any (s : List UInt8) (hlen : s.length ≤ 1000) (w : World) :
  Calls prog 151 #[.string ⟨s.toArray⟩] w fun e w'=>∃ (neg:Bool) (d:List UInt8) (p:Int) (b:Bool),e=.returned (.tuple #[.agg #[.bool neg,.string ⟨d.toArray⟩,.int .i64 p],.bool b])∧Below w.heap.size w w'∧ReadOK (readL s) neg d p b:=by
 obtain⟨R,hR⟩:∃ R,R=readL s:=⟨_,rfl⟩
 rw[← hR];have HR:=Qh hR;clear hR;obtain⟨tr,tx,hsz,hbw⟩:=box2 w #[.bool false,.string ⟨#[]⟩,.int .i64 0] #[.bool false,.string ⟨#[]⟩,.int .i64 0] 241 241;have TR:=Qh tr;have TX:=Qh tx;have HBW:=Qh hbw;have HSZ:=Qh hsz;clear tr tx hbw hsz;go_enter func151,ntmps151
 go_wp2_with fail;go_step3
 go_wp2_with fail;go_step3
 go_wp2_with fail;generalize (w.alloc (.cells #[.bool false,.string ⟨#[]⟩,.int .i64 0] 241)).alloc (.cells #[.bool false,.string ⟨#[]⟩,.int .i64 0] 241)=W at *;go_loopg [5,6,7,8,9] s.length (fun g a b p d x ws=>∃ (i pt back pow:Nat) (neg down:Bool) (ds:List UInt8),i≤s.length∧g=s.length - i∧a=.int .i64 (pt:Nat)∧b=.int .i64 (back:Nat)∧p=.int .i64 (pow:Nat)∧d=.bool down∧x=.int .i64 (i:Nat)∧pt≤6∧back≤i∧pow≤1000∧ds.length≤i∧rout ⟨pt,neg,ds,back,pow,down⟩ (s.drop i)=R∧Blk ws w.heap.size #[.bool false,.string ⟨#[]⟩,.int .i64 0]∧Blk ws (w.heap.size+1) #[.bool neg,.string ⟨ds.toArray⟩,.int .i64 0]∧Below w.heap.size w ws)
 case atStart=>exact⟨0,0,0,0,false,false,[],Nat.zero_le _,rfl,rfl,rfl,rfl,rfl,rfl,by decide,by decide,by decide,by decide,HR.out.symm,TR.out,TX.out,HBW.out⟩
 case round=>
  obtain⟨i,pt,back,pow,neg,down,ds,hi,hg0,rfl,rfl,rfl,rfl,rfl,hpt,hback,hpow,hds,hrun,tr,tx,hbw⟩:=hrel;obtain⟨wq,hwq⟩:∃ x,x=wr:=⟨_,rfl⟩
  subst hwq;obtain⟨g0,hg0'⟩:∃ x,x=gk:=⟨_,rfl⟩
  subst hg0';have Hg0:=Qh hg0;have HRUN:=Qh hrun;clear HR TR TX HBW HSZ hg0 hrun;have TR:=Qh tr;have TX:=Qh tx;have HB:=Qh hbw;obtain⟨r0,r1,r2,r3,r4,r5⟩:=tr.three;obtain⟨x0,x1,x2,x3,x4,x5⟩:=tx.three;clear tr tx hbw;by_cases hlt:(i:Int) < s.length
  ·have hlt':i < s.length:=(by omega);have hget:(⟨s.toArray⟩:ByteArray)[i]'hlt' = s[i]:=rfl;have HDROP:=Qh (List.drop_eq_getElem_cons hlt');have HRC:=Qh (show(rstep ⟨pt,neg,ds,back,pow,down⟩ s[i] (s.drop (i+1))).bind (fun y=>rout y (s.drop (i+1)))=R by rw[← HRUN.out,HDROP.out,rout_cons]);generalize s[i]=c at *;clear HDROP HRUN;by_cases hsg:isSg c=true
   ·have hc2:c=43∨c=45:=(by unfold isSg at hsg;simpa using hsg);rcases hc2 with hlit|hlit
    ·subst hlit;have hm:((43:UInt8).toNat:Int)=43:=rfl;by_cases hp0:pt=0
     ·subst hp0;by_cases hlast:i+1=s.length
      ·have e1:((i:Int)+1 == (s.length:Int))=true:=(by rw[beq_iff_eq];omega);have hdn:s.drop (i+1)=[]:=(by rw[hlast,List.drop_length]);have HN:=Qh (show none=R by rw[← HRC.out,hdn];rfl);clear HRC;go_wp2_with fail;try rw[Exit.noGoto_ret]
       exact bodyPost_ret (v:=.tuple #[.agg #[.bool false,.string ⟨ds.toArray⟩,.int .i64 0],.bool false]) (by simp[results,results151,go_sem,r0,r1,r2]) rfl ⟨false,ds,0,false,rfl,(((HB.out.setCell (by simp) _).setCell (by simp) _).setCell (by simp) _).setCell (by simp) _,by rw[← HN.out];rfl⟩
      ·have e1:((i:Int)+1 == (s.length:Int))=false:=ne_bool (by omega);have hlt2:i+1 < s.length:=(by omega);have hget2:(⟨s.toArray⟩:ByteArray)[i+1]'hlt2=s[i+1]:=rfl;have HD2:=Qh (List.drop_eq_getElem_cons hlt2);have htn:((i:Int)+1).toNat=i+1:=(by omega);generalize s[i+1]=d at *;have HDG:=isDg_iff d;generalize hdm:(d.toNat:Int)=dm at *;by_cases l1:dm < 48
       ·have hnd:isDg d=false:=(by rw[Bool.eq_false_iff];intro h;have:=HDG.1 h;omega);have HN:=Qh (show none=R by rw[← HRC.out,HD2.out,show rstep ⟨0,neg,ds,back,pow,down⟩ 43 (d::s.drop (i+1+1))=none by (unfold rstep headD;simp[hnd,isSg])];rfl);clear HRC;go_wp2_with fail;try rw[Exit.noGoto_ret]
        exact bodyPost_ret (v:=.tuple #[.agg #[.bool false,.string ⟨ds.toArray⟩,.int .i64 0],.bool false]) (by simp[results,results151,go_sem,r0,r1,r2]) rfl ⟨false,ds,0,false,rfl,(((HB.out.setCell (by simp) _).setCell (by simp) _).setCell (by simp) _).setCell (by simp) _,by rw[← HN.out];rfl⟩
       by_cases l2:57 < dm
       ·have hnd:isDg d=false:=(by rw[Bool.eq_false_iff];intro h;have:=HDG.1 h;omega);have HN:=Qh (show none=R by rw[← HRC.out,HD2.out,show rstep ⟨0,neg,ds,back,pow,down⟩ 43 (d::s.drop (i+1+1))=none by (unfold rstep headD;simp[hnd,isSg])];rfl);clear HRC;go_wp2_with fail;try rw[Exit.noGoto_ret]
        exact bodyPost_ret (v:=.tuple #[.agg #[.bool false,.string ⟨ds.toArray⟩,.int .i64 0],.bool false]) (by simp[results,results151,go_sem,r0,r1,r2]) rfl ⟨false,ds,0,false,rfl,(((HB.out.setCell (by simp) _).setCell (by simp) _).setCell (by simp) _).setCell (by simp) _,by rw[← HN.out];rfl⟩
       have hnd:isDg d=true:=HDG.2 (by omega);have HN:=Qh (show rout ⟨1,false,ds,back,pow,down⟩ (s.drop (i+1))=R by
        have h:=HRC.out;rw[HD2.out,show rstep ⟨0,neg,ds,back,pow,down⟩ 43 (d::s.drop (i+1+1))=some ⟨1,false,ds,back,pow,down⟩by (unfold rstep headD;simp[hnd,isSg])]at h;rw[HD2.out];exact h)
       clear HRC hnd;go_wp2_with fail;go_roundg (s.length - (i+1))
       case rel=>exact⟨i+1,1,back,pow,false,down,ds,by omega,rfl,rfl,by first|rfl|go_num,by first|rfl|go_num,rfl,by first|rfl|go_num,by decide,by omega,hpow,by omega,HN.out,TR.out.other (by show w.heap.size+1≠w.heap.size;omega) _,TX.out.set 0 _,HB.out.setCell (by simp) _⟩
       case measure=>have:=Hg0.out;omega
     ·have h0b:((pt:Int) == 0)=false:=ne_bool (by omega);by_cases hp4:pt=4
      ·subst hp4;have HN:=Qh (show rout ⟨5,neg,ds,back,pow,false⟩ (s.drop (i+1))=R from HRC.out);clear HRC;go_wp2_with fail;go_roundg (s.length - (i+1))
       case rel=>exact⟨i+1,5,back,pow,neg,false,ds,by omega,rfl,rfl,by first|rfl|go_num,by first|rfl|go_num,rfl,by first|rfl|go_num,by decide,by omega,hpow,by omega,HN.out,TR.out,TX.out,HB.out⟩
       case measure=>have:=Hg0.out;omega
      ·have h4b:((pt:Int) == 4)=false:=ne_bool (by omega);have HN:=Qh (show none=R by rw[← HRC.out,step_none (by decide) (fun _=>⟨hp0,hp4⟩) (fun h=>absurd h (by decide)) (fun h=>absurd h (by decide))];rfl);clear HRC;go_wp2_with fail;try rw[Exit.noGoto_ret]
       exact bodyPost_ret (v:=.tuple #[.agg #[.bool neg,.string ⟨ds.toArray⟩,.int .i64 0],.bool false]) (by simp[results,results151,go_sem,r0,r1,r2]) rfl ⟨neg,ds,0,false,rfl,((HB.out.setCell (by simp) _).setCell (by simp) _).setCell (by simp) _,by rw[← HN.out];rfl⟩
    ·subst hlit;have hm:((45:UInt8).toNat:Int)=45:=rfl;by_cases hp0:pt=0
     ·subst hp0;by_cases hlast:i+1=s.length
      ·have e1:((i:Int)+1 == (s.length:Int))=true:=(by rw[beq_iff_eq];omega);have hdn:s.drop (i+1)=[]:=(by rw[hlast,List.drop_length]);have HN:=Qh (show none=R by rw[← HRC.out,hdn];rfl);clear HRC;go_wp2_with fail;try rw[Exit.noGoto_ret]
       exact bodyPost_ret (v:=.tuple #[.agg #[.bool true,.string ⟨ds.toArray⟩,.int .i64 0],.bool false]) (by simp[results,results151,go_sem,r0,r1,r2]) rfl ⟨true,ds,0,false,rfl,(((HB.out.setCell (by simp) _).setCell (by simp) _).setCell (by simp) _).setCell (by simp) _,by rw[← HN.out];rfl⟩
      ·have e1:((i:Int)+1 == (s.length:Int))=false:=ne_bool (by omega);have hlt2:i+1 < s.length:=(by omega);have hget2:(⟨s.toArray⟩:ByteArray)[i+1]'hlt2=s[i+1]:=rfl;have HD2:=Qh (List.drop_eq_getElem_cons hlt2);have htn:((i:Int)+1).toNat=i+1:=(by omega);generalize s[i+1]=d at *;have HDG:=isDg_iff d;generalize hdm:(d.toNat:Int)=dm at *;by_cases l1:dm < 48
       ·have hnd:isDg d=false:=(by rw[Bool.eq_false_iff];intro h;have:=HDG.1 h;omega);have HN:=Qh (show none=R by rw[← HRC.out,HD2.out,show rstep ⟨0,neg,ds,back,pow,down⟩ 45 (d::s.drop (i+1+1))=none by (unfold rstep headD;simp[hnd,isSg])];rfl);clear HRC;go_wp2_with fail;try rw[Exit.noGoto_ret]
        exact bodyPost_ret (v:=.tuple #[.agg #[.bool true,.string ⟨ds.toArray⟩,.int .i64 0],.bool false]) (by simp[results,results151,go_sem,r0,r1,r2]) rfl ⟨true,ds,0,false,rfl,(((HB.out.setCell (by simp) _).setCell (by simp) _).setCell (by simp) _).setCell (by simp) _,by rw[← HN.out];rfl⟩
       by_cases l2:57 < dm
       ·have hnd:isDg d=false:=(by rw[Bool.eq_false_iff];intro h;have:=HDG.1 h;omega);have HN:=Qh (show none=R by rw[← HRC.out,HD2.out,show rstep ⟨0,neg,ds,back,pow,down⟩ 45 (d::s.drop (i+1+1))=none by (unfold rstep headD;simp[hnd,isSg])];rfl);clear HRC;go_wp2_with fail;try rw[Exit.noGoto_ret]
        exact bodyPost_ret (v:=.tuple #[.agg #[.bool true,.string ⟨ds.toArray⟩,.int .i64 0],.bool false]) (by simp[results,results151,go_sem,r0,r1,r2]) rfl ⟨true,ds,0,false,rfl,(((HB.out.setCell (by simp) _).setCell (by simp) _).setCell (by simp) _).setCell (by simp) _,by rw[← HN.out];rfl⟩
       have hnd:isDg d=true:=HDG.2 (by omega);have HN:=Qh (show rout ⟨1,true,ds,back,pow,down⟩ (s.drop (i+1))=R by
        have h:=HRC.out;rw[HD2.out,show rstep ⟨0,neg,ds,back,pow,down⟩ 45 (d::s.drop (i+1+1))=some ⟨1,true,ds,back,pow,down⟩by (unfold rstep headD;simp[hnd,isSg])]at h;rw[HD2.out];exact h)
       clear HRC hnd;go_wp2_with fail;go_roundg (s.length - (i+1))
       case rel=>exact⟨i+1,1,back,pow,true,down,ds,by omega,rfl,rfl,by first|rfl|go_num,by first|rfl|go_num,rfl,by first|rfl|go_num,by decide,by omega,hpow,by omega,HN.out,TR.out.other (by show w.heap.size+1≠w.heap.size;omega) _,TX.out.set 0 _,HB.out.setCell (by simp) _⟩
       case measure=>have:=Hg0.out;omega
     ·have h0b:((pt:Int) == 0)=false:=ne_bool (by omega);by_cases hp4:pt=4
      ·subst hp4;have HN:=Qh (show rout ⟨5,neg,ds,back,pow,true⟩ (s.drop (i+1))=R from HRC.out);clear HRC;go_wp2_with fail;go_roundg (s.length - (i+1))
       case rel=>exact⟨i+1,5,back,pow,neg,true,ds,by omega,rfl,rfl,by first|rfl|go_num,by first|rfl|go_num,rfl,by first|rfl|go_num,by decide,by omega,hpow,by omega,HN.out,TR.out,TX.out,HB.out⟩
       case measure=>have:=Hg0.out;omega
      ·have h4b:((pt:Int) == 4)=false:=ne_bool (by omega);have HN:=Qh (show none=R by rw[← HRC.out,step_none (by decide) (fun _=>⟨hp0,hp4⟩) (fun h=>absurd h (by decide)) (fun h=>absurd h (by decide))];rfl);clear HRC;go_wp2_with fail;try rw[Exit.noGoto_ret]
       exact bodyPost_ret (v:=.tuple #[.agg #[.bool neg,.string ⟨ds.toArray⟩,.int .i64 0],.bool false]) (by simp[results,results151,go_sem,r0,r1,r2]) rfl ⟨neg,ds,0,false,rfl,((HB.out.setCell (by simp) _).setCell (by simp) _).setCell (by simp) _,by rw[← HN.out];rfl⟩
   ·by_cases hp46:c=46
    ·subst hp46;have hm:((46:UInt8).toNat:Int)=46:=rfl;by_cases h1:pt=1
     ·subst h1;have HN:=Qh (show rout ⟨2,neg,ds,back,pow,down⟩ (s.drop (i+1))=R from HRC.out);clear HRC;go_wp2_with fail;go_roundg (s.length - (i+1))
      case rel=>exact⟨i+1,2,back,pow,neg,down,ds,by omega,rfl,rfl,by first|rfl|go_num,by first|rfl|go_num,rfl,by first|rfl|go_num,by decide,by omega,hpow,by omega,HN.out,TR.out,TX.out,HB.out⟩
      case measure=>have:=Hg0.out;omega
     ·have h1b:((pt:Int) == 1)=false:=ne_bool (by omega);have HN:=Qh (show none=R by rw[← HRC.out,step_none (by decide) (fun h=>absurd h (by decide)) (fun _=>h1) (fun h=>absurd h (by decide))];rfl);clear HRC;go_wp2_with fail;try rw[Exit.noGoto_ret]
      exact bodyPost_ret (v:=.tuple #[.agg #[.bool neg,.string ⟨ds.toArray⟩,.int .i64 0],.bool false]) (by simp[results,results151,go_sem,r0,r1,r2]) rfl ⟨neg,ds,0,false,rfl,((HB.out.setCell (by simp) _).setCell (by simp) _).setCell (by simp) _,by rw[← HN.out];rfl⟩
    ·by_cases hee:isEe c=true
     ·have hc2:c=101∨c=69:=(by unfold isEe at hee;simpa using hee);rcases hc2 with hlit|hlit
      ·subst hlit;have hm:((101:UInt8).toNat:Int)=101:=rfl;by_cases h1:pt=1
       ·subst h1;have HN:=Qh (show rout ⟨4,neg,ds,back,pow,down⟩ (s.drop (i+1))=R from HRC.out);clear HRC;go_wp2_with fail;go_roundg (s.length - (i+1))
        case rel=>exact⟨i+1,4,back,pow,neg,down,ds,by omega,rfl,rfl,by first|rfl|go_num,by first|rfl|go_num,rfl,by first|rfl|go_num,by decide,by omega,hpow,by omega,HN.out,TR.out,TX.out,HB.out⟩
        case measure=>have:=Hg0.out;omega
       ·have h1b:((pt:Int) == 1)=false:=ne_bool (by omega);by_cases h3:pt=3
        ·subst h3;have HN:=Qh (show rout ⟨4,neg,ds,back,pow,down⟩ (s.drop (i+1))=R from HRC.out);clear HRC;go_wp2_with fail;go_roundg (s.length - (i+1))
         case rel=>exact⟨i+1,4,back,pow,neg,down,ds,by omega,rfl,rfl,by first|rfl|go_num,by first|rfl|go_num,rfl,by first|rfl|go_num,by decide,by omega,hpow,by omega,HN.out,TR.out,TX.out,HB.out⟩
         case measure=>have:=Hg0.out;omega
        ·have h3b:((pt:Int) != 3)=true:=(by rw[bne_iff_ne];omega);have h1n:((pt:Int) != 1)=true:=(by rw[bne_iff_ne];omega);have HN:=Qh (show none=R by rw[← HRC.out,step_none (by decide) (fun h=>absurd h (by decide)) (fun h=>absurd h (by decide)) (fun _=>⟨h1,h3⟩)];rfl);clear HRC;go_wp2_with fail;try rw[Exit.noGoto_ret]
         exact bodyPost_ret (v:=.tuple #[.agg #[.bool neg,.string ⟨ds.toArray⟩,.int .i64 0],.bool false]) (by simp[results,results151,go_sem,r0,r1,r2]) rfl ⟨neg,ds,0,false,rfl,((HB.out.setCell (by simp) _).setCell (by simp) _).setCell (by simp) _,by rw[← HN.out];rfl⟩
      ·subst hlit;have hm:((69:UInt8).toNat:Int)=69:=rfl;by_cases h1:pt=1
       ·subst h1;have HN:=Qh (show rout ⟨4,neg,ds,back,pow,down⟩ (s.drop (i+1))=R from HRC.out);clear HRC;go_wp2_with fail;go_roundg (s.length - (i+1))
        case rel=>exact⟨i+1,4,back,pow,neg,down,ds,by omega,rfl,rfl,by first|rfl|go_num,by first|rfl|go_num,rfl,by first|rfl|go_num,by decide,by omega,hpow,by omega,HN.out,TR.out,TX.out,HB.out⟩
        case measure=>have:=Hg0.out;omega
       ·have h1b:((pt:Int) == 1)=false:=ne_bool (by omega);by_cases h3:pt=3
        ·subst h3;have HN:=Qh (show rout ⟨4,neg,ds,back,pow,down⟩ (s.drop (i+1))=R from HRC.out);clear HRC;go_wp2_with fail;go_roundg (s.length - (i+1))
         case rel=>exact⟨i+1,4,back,pow,neg,down,ds,by omega,rfl,rfl,by first|rfl|go_num,by first|rfl|go_num,rfl,by first|rfl|go_num,by decide,by omega,hpow,by omega,HN.out,TR.out,TX.out,HB.out⟩
         case measure=>have:=Hg0.out;omega
        ·have h3b:((pt:Int) != 3)=true:=(by rw[bne_iff_ne];omega);have h1n:((pt:Int) != 1)=true:=(by rw[bne_iff_ne];omega);have HN:=Qh (show none=R by rw[← HRC.out,step_none (by decide) (fun h=>absurd h (by decide)) (fun h=>absurd h (by decide)) (fun _=>⟨h1,h3⟩)];rfl);clear HRC;go_wp2_with fail;try rw[Exit.noGoto_ret]
         exact bodyPost_ret (v:=.tuple #[.agg #[.bool neg,.string ⟨ds.toArray⟩,.int .i64 0],.bool false]) (by simp[results,results151,go_sem,r0,r1,r2]) rfl ⟨neg,ds,0,false,rfl,((HB.out.setCell (by simp) _).setCell (by simp) _).setCell (by simp) _,by rw[← HN.out];rfl⟩
     ·by_cases hdg:isDg c=true
      ·have hcq:=(isDg_iff c).1 hdg;obtain⟨q,hq⟩:∃ q,q=c.toNat - 48:=⟨_,rfl⟩
       have hdc:=dgt_back hdg;rw[← hq]at hdc;have hm:(c.toNat:Int)=48+(q:Int):=(by omega);have hq9:q < 10:=(by omega);have hcv:=fun w=>conv_digU q hq9 w
       rw[hdc]at hcv;have HST:=Qh (step_dg (x:=⟨pt,neg,ds,back,pow,down⟩) (t:=s.drop (i+1)) hdg);rw[← hq]at HST;rw[← hm]at hcv;obtain⟨n1,n2,n3,n4,n5,n6,n7⟩:=not_signs (m:=(c.toNat:Int)) (by omega);have hqq:(c.toNat:Int) - 48=(q:Int):=(by omega);clear hcq hsg hp46 hee hdg hdc hq hm;by_cases h4:(4:Int)≤pt
       ·have HN:=Qh (show rout ⟨6,neg,ds,back,min (10*pow+q) 1000,down⟩ (s.drop (i+1))=R by
         have h:=HRC.out;rw[HST.out,if_pos (show 4≤pt by omega)]at h;exact h)
        clear HRC HST hcv;go_wp2_with fail;go_roundg (s.length - (i+1))
        case rel=>exact⟨i+1,6,back,min (10*pow+q) 1000,neg,down,ds,by omega,rfl,rfl,by first|rfl|go_num,(by show Value.int _ _=Value.int _ _;congr 1;omega),rfl,by first|rfl|go_num,by decide,by omega,by omega,by omega,HN.out,TR.out,TX.out,HB.out⟩
        case measure=>have:=Hg0.out;omega
       ·have hst:=strA ds [c];have hl3:¬ 9223372036854775807 < ds.length+1:=(by omega);have hl4:ds.length < 9223372036854775807:=(by omega);by_cases h2:pt=2
        ·subst h2;have HN:=Qh (show rout ⟨3,neg,ds++[c],back+1,pow,down⟩ (s.drop (i+1))=R by
          have h:=HRC.out;rw[HST.out,if_neg (show ¬ 4≤2 by decide),if_pos (.inl rfl)]at h;exact h)
         clear HRC HST;go_wp2_with fail;go_roundg (s.length - (i+1))
         case rel=>exact⟨i+1,3,back+1,pow,neg,down,(ds++[c]),by omega,rfl,rfl,by first|rfl|go_num,by first|rfl|go_num,rfl,by first|rfl|go_num,by decide,by omega,hpow,(by simp;omega),HN.out,TR.out.other (by show w.heap.size+1≠w.heap.size;omega) _,TX.out.set 1 _,HB.out.setCell (by simp) _⟩
         case measure=>have:=Hg0.out;omega
        by_cases h3:pt=3
        ·subst h3;have HN:=Qh (show rout ⟨3,neg,ds++[c],back+1,pow,down⟩ (s.drop (i+1))=R by
          have h:=HRC.out;rw[HST.out,if_neg (show ¬ 4≤3 by decide),if_pos (.inr rfl)]at h;exact h)
         clear HRC HST;go_wp2_with fail;go_roundg (s.length - (i+1))
         case rel=>exact⟨i+1,3,back+1,pow,neg,down,(ds++[c]),by omega,rfl,rfl,by first|rfl|go_num,by first|rfl|go_num,rfl,by first|rfl|go_num,by decide,by omega,hpow,(by simp;omega),HN.out,TR.out.other (by show w.heap.size+1≠w.heap.size;omega) _,TX.out.set 1 _,HB.out.setCell (by simp) _⟩
         case measure=>have:=Hg0.out;omega
        have h2b:((pt:Int) == 2)=false:=ne_bool (by omega);have h3b:((pt:Int) == 3)=false:=ne_bool (by omega);have HN:=Qh (show rout ⟨1,neg,ds++[c],back,pow,down⟩ (s.drop (i+1))=R by
         have h:=HRC.out;rw[HST.out,if_neg (show ¬ 4≤pt by omega),if_neg (show ¬ (pt=2∨pt=3)by omega)]at h;exact h)
        clear HRC HST;go_wp2_with fail;go_roundg (s.length - (i+1))
        case rel=>exact⟨i+1,1,back,pow,neg,down,(ds++[c]),by omega,rfl,rfl,by first|rfl|go_num,by first|rfl|go_num,rfl,by first|rfl|go_num,by decide,by omega,hpow,(by simp;omega),HN.out,TR.out.other (by show w.heap.size+1≠w.heap.size;omega) _,TX.out.set 1 _,HB.out.setCell (by simp) _⟩
        case measure=>have:=Hg0.out;omega
      ·have HDG:=isDg_iff c;have hsg':isSg c=false:=(by simpa using hsg);have hee':isEe c=false:=(by simpa using hee);have q1:((c.toNat:Int) == 43)=false:=ne_bool (fun h=>hsg (by rw[show c=43 from UInt8.toNat_inj.1 (by show c.toNat=43;omega)];rfl));have q2:((c.toNat:Int) == 45)=false:=ne_bool (fun h=>hsg (by rw[show c=45 from UInt8.toNat_inj.1 (by show c.toNat=45;omega)];rfl));have q3:((c.toNat:Int) == 46)=false:=ne_bool (fun h=>hp46 (UInt8.toNat_inj.1 (by show c.toNat=46;omega)));have q4:((c.toNat:Int) == 101)=false:=ne_bool (fun h=>hee (by rw[show c=101 from UInt8.toNat_inj.1 (by show c.toNat=101;omega)];rfl));have q5:((c.toNat:Int) == 69)=false:=ne_bool (fun h=>hee (by rw[show c=69 from UInt8.toNat_inj.1 (by show c.toNat=69;omega)];rfl));have hst:rstep ⟨pt,neg,ds,back,pow,down⟩ c (s.drop (i+1))=none:=step_none (by simpa using hdg) (fun h=>absurd h hsg) (fun h=>absurd h hp46) (fun h=>absurd h hee);have hcl:(c.toNat:Int) < 48∨57 < (c.toNat:Int):=by
        rcases Nat.lt_or_ge c.toNat 48 with h|h
        ·left;omega
        ·right;apply Decidable.byContradiction;intro h2;exact hdg (HDG.2 (by omega))
       clear HDG hsg hee hp46 hdg hsg' hee';rcases hcl with l1|l1
       ·have HN:=Qh (show none=R by rw[← HRC.out,hst];rfl);clear HRC hst;go_wp2_with fail;try rw[Exit.noGoto_ret]
        exact bodyPost_ret (v:=.tuple #[.agg #[.bool neg,.string ⟨ds.toArray⟩,.int .i64 0],.bool false]) (by simp[results,results151,go_sem,r0,r1,r2]) rfl ⟨neg,ds,0,false,rfl,((HB.out.setCell (by simp) _).setCell (by simp) _).setCell (by simp) _,by rw[← HN.out];rfl⟩
       ·have l0:¬ (c.toNat:Int) < 48:=(by omega);have HN:=Qh (show none=R by rw[← HRC.out,hst];rfl);clear HRC hst;go_wp2_with fail;try rw[Exit.noGoto_ret]
        exact bodyPost_ret (v:=.tuple #[.agg #[.bool neg,.string ⟨ds.toArray⟩,.int .i64 0],.bool false]) (by simp[results,results151,go_sem,r0,r1,r2]) rfl ⟨neg,ds,0,false,rfl,((HB.out.setCell (by simp) _).setCell (by simp) _).setCell (by simp) _,by rw[← HN.out];rfl⟩
  ·obtain rfl:i=s.length:=by omega
   have HN:=Qh (show rfin ⟨pt,neg,ds,back,pow,down⟩=R by rw[← HRUN.out,List.drop_length];rfl);clear HRUN;have hpb:(back:Int)≤1000:=(by omega);cases down
   ·by_cases h1:pt=1
    ·subst h1;go_wp2_with fail;try rw[Exit.noGoto_ret]
     exact bodyPost_ret (v:=.tuple #[.agg #[.bool neg,.string ⟨ds.toArray⟩,.int .i64 ((pow:Int) - (back:Int))],.bool true]) (by simp[results,results151,go_sem,r0,r1,r2]) rfl ⟨neg,ds,(pow:Int) - (back:Int),true,rfl,(((HB.out.setCell (by simp) _).setCell (by simp) _).setCell (by simp) _).setCell (by simp) _,by rw[← HN.out];exact⟨rfl,rfl,rfl,rfl⟩⟩
    by_cases h3:pt=3
    ·subst h3;go_wp2_with fail;try rw[Exit.noGoto_ret]
     exact bodyPost_ret (v:=.tuple #[.agg #[.bool neg,.string ⟨ds.toArray⟩,.int .i64 ((pow:Int) - (back:Int))],.bool true]) (by simp[results,results151,go_sem,r0,r1,r2]) rfl ⟨neg,ds,(pow:Int) - (back:Int),true,rfl,(((HB.out.setCell (by simp) _).setCell (by simp) _).setCell (by simp) _).setCell (by simp) _,by rw[← HN.out];exact⟨rfl,rfl,rfl,rfl⟩⟩
    by_cases h6:pt=6
    ·subst h6;go_wp2_with fail;try rw[Exit.noGoto_ret]
     exact bodyPost_ret (v:=.tuple #[.agg #[.bool neg,.string ⟨ds.toArray⟩,.int .i64 ((pow:Int) - (back:Int))],.bool true]) (by simp[results,results151,go_sem,r0,r1,r2]) rfl ⟨neg,ds,(pow:Int) - (back:Int),true,rfl,(((HB.out.setCell (by simp) _).setCell (by simp) _).setCell (by simp) _).setCell (by simp) _,by rw[← HN.out];exact⟨rfl,rfl,rfl,rfl⟩⟩
    have n1:((pt:Int) == 1)=false:=ne_bool (by omega);have n3:((pt:Int) == 3)=false:=ne_bool (by omega);have n6:((pt:Int) == 6)=false:=ne_bool (by omega);go_wp2_with fail;try rw[Exit.noGoto_ret]
    exact bodyPost_ret (v:=.tuple #[.agg #[.bool neg,.string ⟨ds.toArray⟩,.int .i64 ((pow:Int) - (back:Int))],.bool false]) (by simp[results,results151,go_sem,r0,r1,r2]) rfl ⟨neg,ds,(pow:Int) - (back:Int),false,rfl,(((HB.out.setCell (by simp) _).setCell (by simp) _).setCell (by simp) _).setCell (by simp) _,by rw[← HN.out];unfold rfin;rw[if_neg (by show ¬ (pt=1∨pt=3∨pt=6);omega)];rfl⟩
   ·by_cases h1:pt=1
    ·subst h1;go_wp2_with fail;try rw[Exit.noGoto_ret]
     exact bodyPost_ret (v:=.tuple #[.agg #[.bool neg,.string ⟨ds.toArray⟩,.int .i64 (-(pow:Int) - (back:Int))],.bool true]) (by simp[results,results151,go_sem,r0,r1,r2]) rfl ⟨neg,ds,-(pow:Int) - (back:Int),true,rfl,(((HB.out.setCell (by simp) _).setCell (by simp) _).setCell (by simp) _).setCell (by simp) _,by rw[← HN.out];exact⟨rfl,rfl,rfl,rfl⟩⟩
    by_cases h3:pt=3
    ·subst h3;go_wp2_with fail;try rw[Exit.noGoto_ret]
     exact bodyPost_ret (v:=.tuple #[.agg #[.bool neg,.string ⟨ds.toArray⟩,.int .i64 (-(pow:Int) - (back:Int))],.bool true]) (by simp[results,results151,go_sem,r0,r1,r2]) rfl ⟨neg,ds,-(pow:Int) - (back:Int),true,rfl,(((HB.out.setCell (by simp) _).setCell (by simp) _).setCell (by simp) _).setCell (by simp) _,by rw[← HN.out];exact⟨rfl,rfl,rfl,rfl⟩⟩
    by_cases h6:pt=6
    ·subst h6;go_wp2_with fail;try rw[Exit.noGoto_ret]
     exact bodyPost_ret (v:=.tuple #[.agg #[.bool neg,.string ⟨ds.toArray⟩,.int .i64 (-(pow:Int) - (back:Int))],.bool true]) (by simp[results,results151,go_sem,r0,r1,r2]) rfl ⟨neg,ds,-(pow:Int) - (back:Int),true,rfl,(((HB.out.setCell (by simp) _).setCell (by simp) _).setCell (by simp) _).setCell (by simp) _,by rw[← HN.out];exact⟨rfl,rfl,rfl,rfl⟩⟩
    have n1:((pt:Int) == 1)=false:=ne_bool (by omega);have n3:((pt:Int) == 3)=false:=ne_bool (by omega);have n6:((pt:Int) == 6)=false:=ne_bool (by omega);go_wp2_with fail;try rw[Exit.noGoto_ret]
    exact bodyPost_ret (v:=.tuple #[.agg #[.bool neg,.string ⟨ds.toArray⟩,.int .i64 (-(pow:Int) - (back:Int))],.bool false]) (by simp[results,results151,go_sem,r0,r1,r2]) rfl ⟨neg,ds,-(pow:Int) - (back:Int),false,rfl,(((HB.out.setCell (by simp) _).setCell (by simp) _).setCell (by simp) _).setCell (by simp) _,by rw[← HN.out];unfold rfin;rw[if_neg (by show ¬ (pt=1∨pt=3∨pt=6);omega)];rfl⟩
end Go.Proofs.YtkblpaabknjckaaGreatDoor
