/- The walk of the statement: part 1. -/
import Derived.Test.YtpnbpepkoekkoaaGreatZ35
import Derived.Test.YtpnbpepkoekkoaaGreatZ36
import Derived.Test.YtpnbpepkoekkoaaGreatZ27
import Derived.Test.YtpnbpepkoekkoaaGreatZ3
set_option linter.unusedVariables false
set_option linter.unusedSimpArgs false
set_option maxRecDepth 100000
set_option maxHeartbeats 16000000
namespace Go.Proofs.YtpnbpepkoekkoaaGreat
open Go.Value (int)
open Go.IntKind (i64)
section
open Go Go.RowKit Go.Deep
theorem Ha(s:Ls)(ns:List Int)(k:Int)(w:World)(h:LawIn s ns w):Calls Tryz.prog 4 #[s.val,int i64 k] w (λe w'=>e=.returned (.bool true)∧Below w.heap.size w w'):=by
 obtain ⟨W1,hE,gW1,bW1,sW1⟩:=Ag w s.cells 30;obtain ⟨cs,hD⟩:∃cs,s.cells=cs:=⟨_,rfl⟩;have hv:s.val=.agg cs:=by rw [← hD];rfl
 have CS:=TN W1 (λV hV=>h.env _ (Ad bW1 hV));rw [hv];rw [hD] at hE gW1;have HH:=qh h;have hT:=qh hE;have HG:=qh gW1;have HB:=qh bW1;have hU:=qh CS;have hA:Hid (cs.size=12):=qh (by rw [← hD];rfl);have HV:=qh hv;clear h hE gW1 bW1 sW1 hv CS hD;have C6:=λV (hV:Below w.heap.size w V)=>TY s V (HH.out.at_.below hV) HH.out.fit
 have C9:=λV (hV:Below w.heap.size w V)=>KM s ns V (HH.out.at_.below hV) (HH.out.ns.below hV) (HH.out.env _ hV)
 have C10:=λV (hV:Below w.heap.size w V)=>LN s ns V (HH.out.at_.below hV) (HH.out.ns.below hV) (λV2 hB=>Ss s ns V2 (HH.out.at_.below (Ad hV hB)) (HH.out.ns.below (Ad hV hB)))
 have C11:=λV (hV:Below w.heap.size w V)=>GZ s ns k V (HH.out.at_.below hV) (HH.out.ns.below hV) (HH.out.env _ hV)
 have C12:=λV (hV:Below w.heap.size w V)=>Rk s ns k V (HH.out.at_.below hV) (HH.out.ns.below hV) (λV2 hB=>Ss s ns V2 (HH.out.at_.below (Ad hV hB)) (HH.out.ns.below (Ad hV hB)))
 simp only [HV.out] at C6 C9 C10 C11 C12;have hW:=qh C6;have hX:=qh C9;have hF:=qh C10;have hG:=qh C11;have hH:=qh C12;clear C6 C9 C10 C11 C12;go_enter Tryz.func4,Tryz.ntmps4;refine Ae (λK hK=>?_);have HK:=qh hK;clear hK;go_wp2_with fail;rw [hT.out];refine HK.out _ _ ?_;clear HK K
 go_wp2_with (first
  | (go_at_call 5;refine hU.out.mono ?_;rintro e V ⟨rfl,hv⟩;have H2:=qh (Ah hv HG.out);have hN:=qh (Ad HB.out hv);clear hv)
  | (refine wpList_load_row rfl 30 _ rfl w.heap.size rfl 30 cs (0,0) _ H2.out Tryz.underlying30 rfl (by rw [hA.out];kernel_rfl) ?_;simp only [Act.put,qD,qE,qF]))
 refine (hW.out _ hN.out).mono ?_;rintro e V3 ⟨bf,rfl,_,hv⟩;have H3:=qh (Ah hv H2.out);have hI:=qh (Ad hN.out hv);clear hv
 cases bf with
 | false =>
  go_wp2_with fail;go_ret;exact ⟨rfl,hI.out⟩
 | true =>
  have st0:True:=trivial
  go_wp2_with (first
   | (have q:=st0;clear q st0;(refine wpList_load_row rfl 30 _ rfl w.heap.size rfl 30 cs (0,0) _ H3.out Tryz.underlying30 rfl (by rw [hA.out];kernel_rfl) ?_;simp only [Act.put,qD,qE,qF])))
  refine (hX.out _ hI.out).mono ?_;rintro e V4 ⟨v,rfl,hO,hv⟩;have H4:=qh (Ah hv H3.out);have hP:=qh (Ad hI.out hv);have hY:=qh hO;clear hv hO
  go_wp2_with (refine wpList_load_row rfl 30 _ rfl w.heap.size rfl 30 cs (0,0) _ H4.out Tryz.underlying30 rfl (by rw [hA.out];kernel_rfl) ?_;simp only [Act.put,qD,qE,qF]);refine (hF.out _ hP.out).mono ?_;rintro e V5 ⟨v2,rfl,hQ,hv⟩;have H5:=qh (Ah hv H4.out);have hR:=qh (Ad hP.out hv);have hZ:=qh hQ;have hJ:=qh (hY.out.below hv);clear hv hQ
  go_wp2_with (refine wpList_load_row rfl 30 _ rfl w.heap.size rfl 30 cs (0,0) _ H5.out Tryz.underlying30 rfl (by rw [hA.out];kernel_rfl) ?_;simp only [Act.put,qD,qE,qF]);refine (hG.out _ hR.out).mono ?_;rintro e V6 ⟨rfl,hv⟩;have H6:=qh (Ah hv H5.out);have hS:=qh (Ad hR.out hv);have hL:=qh (hZ.out.below hv);have hC:=qh (hJ.out.below hv);clear hv
  go_wp2_with (refine wpList_load_row rfl 30 _ rfl w.heap.size rfl 30 cs (0,0) _ H6.out Tryz.underlying30 rfl (by rw [hA.out];kernel_rfl) ?_;simp only [Act.put,qD,qE,qF]);refine (hH.out _ hS.out).mono ?_;rintro e V7 ⟨rfl,hv⟩;have ha:=qh (Ad hS.out hv);have C13:=M9 v v2 _ _ V7 (hC.out.below hv) (hL.out.below hv);have hM:=qh C13;clear hv C13
  go_wp2_with (go_at_call 13;refine hM.out.mono ?_;rintro e V8 ⟨he,hb⟩;have hc:=qh (Ad ha.out hb);have hd:e=.returned (.bool true):=(by rw [he];simp);clear hb he;subst hd);go_ret;exact ⟨rfl,hc.out⟩
end
end Go.Proofs.YtpnbpepkoekkoaaGreat
