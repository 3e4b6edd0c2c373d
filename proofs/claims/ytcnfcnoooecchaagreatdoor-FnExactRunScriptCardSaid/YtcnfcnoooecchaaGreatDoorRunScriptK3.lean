import Derived.Test.YtcnfcnoooecchaaGreatDoorRunScriptK2
set_option linter.unusedVariables false
set_option linter.unusedSimpArgs false
namespace Go.Proofs.YtcnfcnoooecchaaGreatDoor
open Go Go.Mx
def DP(P:Program)(FU:Heap)(iK:Nat)(pq:Sl)(pt:Int)(qj:Nat)(j6:Sl)(j7:Int)(jK:Nat)(lW:Sl)(lX:Int)(k8:Nat)(lU:Sl)(lV:Int)(bI:Sl)(bJ:Int)(jL:Nat)(jM:Nat)(cW:Sl)(K:Value->Heap->Prop):Prop:=
 ∀(uh:Nat)(CW:Heap),FU.size<=uh->Fr (In [iK]) FU CW->Vars CW [(uh,[(Sl.v pq),(VI pt)]),(qj,[(Sl.v j6),(VI j7)]),(jK,[(Sl.v lW),(VI lX)]),(k8,[(Sl.v lU),(VI lV)]),(iK,[(Sl.v bI),(VI bJ)]),(jL,[(Sl.v bI),(VI bJ)]),(jM,[(Sl.v cW)])]->
 K (Value.tuple #[(VI 0),(Value.agg #[(Sl.v bI),(VI bJ)]),(VI 0)]) CW
def DQ(P:Program)(fR:Int)(pu:Int)(iK:Nat)(IH:Heap)(k7:Nat)(uE:Sl)(uF:Int)(lT:Nat)(uG:Sl)(uH:Int)(jK:Nat)(lW:Sl)(lX:Int)(k8:Nat)(lU:Sl)(lV:Int)(bI:Sl)(bJ:Int)(jL:Nat)(jM:Nat)(cW:Sl)(K:Value->Heap->Prop):Prop:=
 ((decide (2000<(aL (fR+pu))))=true->
 ∀(Zy:Heap),Fr (In [iK]) IH Zy->Vars Zy [(k7,[(Sl.v uE),(VI uF)]),(lT,[(Sl.v uG),(VI uH)]),(jK,[(Sl.v lW),(VI lX)]),(k8,[(Sl.v lU),(VI lV)]),(iK,[(Sl.v bI),(VI bJ)]),(jL,[(Sl.v bI),(VI bJ)]),(jM,[(Sl.v cW)])]->
 K (Value.tuple #[(VI 0),(Value.agg #[(Sl.v bI),(VI bJ)]),(VI 0)]) Zy)/\
 ((decide (2000<(aL (fR+pu))))=false->
 ∀(Zz:Heap),Fr (In [iK]) IH Zz->Vars Zz [(k7,[(Sl.v uE),(VI uF)]),(lT,[(Sl.v uG),(VI uH)]),(jK,[(Sl.v lW),(VI lX)]),(k8,[(Sl.v lU),(VI lV)]),(iK,[(Sl.v uG),(VI uH)]),(jL,[(Sl.v bI),(VI bJ)]),(jM,[(Sl.v cW)])]->
 K (Value.tuple #[(VI fR),(Value.agg #[(Sl.v uG),(VI uH)]),(VI pu)]) Zz)
def zp(P:Program)(pw:Bool)(iK:Nat)(sP:Heap)(jK:Nat)(lW:Sl)(lX:Int)(k8:Nat)(lU:Sl)(lV:Int)(bI:Sl)(bJ:Int)(jL:Nat)(jM:Nat)(cW:Sl)(K:Value->Heap->Prop):Prop:=
 ((! pw)=true->
 ∀(CX:Heap),Fr (In [iK]) sP CX->Vars CX [(jK,[(Sl.v lW),(VI lX)]),(k8,[(Sl.v lU),(VI lV)]),(iK,[(Sl.v bI),(VI bJ)]),(jL,[(Sl.v bI),(VI bJ)]),(jM,[(Sl.v cW)])]->
 K (Value.tuple #[(VI 0),(Value.agg #[(Sl.v bI),(VI bJ)]),(VI 0)]) CX)/\
 ((! pw)=false->
 aE P 227 #[(Value.agg #[(Sl.v cW)]),(Value.agg #[(Sl.v lU),(VI lV)]),(VI 2000)] sP fun ajv sL=>∃pu:Int,ajv=(VI pu)/\Vars sL [(jK,[(Sl.v lW),(VI lX)]),(k8,[(Sl.v lU),(VI lV)]),(iK,[(Sl.v aC),(VI 0)]),(jL,[(Sl.v bI),(VI bJ)]),(jM,[(Sl.v cW)])]/\
 ((decide (pu=0))=true->
 ∀(sM:Heap),Fr (In [iK]) sL sM->Vars sM [(jK,[(Sl.v lW),(VI lX)]),(k8,[(Sl.v lU),(VI lV)]),(iK,[(Sl.v bI),(VI bJ)]),(jL,[(Sl.v bI),(VI bJ)]),(jM,[(Sl.v cW)])]->
 K (Value.tuple #[(VI 0),(Value.agg #[(Sl.v bI),(VI bJ)]),(VI 0)]) sM)/\
 ((decide (pu=0))=false->
 ∃J_3:Nat->Sl->Int->Nat->Sl->Int->Heap->Prop,((∀(rf:Nat)(ym:Heap),sL.size<=rf->Fr (In []) sL ym->Vars ym [(rf,[(Sl.v aC),(VI 0)]),(jK,[(Sl.v lW),(VI lX)]),(k8,[(Sl.v lU),(VI lV)]),(iK,[(Sl.v aC),(VI 0)]),(jL,[(Sl.v bI),(VI bJ)]),(jM,[(Sl.v cW)])]->
 ∀(vO:Nat)(FM:Heap),ym.size<=vO->Fr (In []) ym FM->Vars FM [(vO,[(Sl.v aC),(VI 0)]),(rf,[(Sl.v aC),(VI 0)]),(jK,[(Sl.v lW),(VI lX)]),(k8,[(Sl.v lU),(VI lV)]),(iK,[(Sl.v aC),(VI 0)]),(jL,[(Sl.v bI),(VI bJ)]),(jM,[(Sl.v cW)])]->
 ∀(CY:Heap),Fr (In [rf]) FM CY->Vars CY [(vO,[(Sl.v aC),(VI 0)]),(rf,[(Sl.v bI),(VI bJ)]),(jK,[(Sl.v lW),(VI lX)]),(k8,[(Sl.v lU),(VI lV)]),(iK,[(Sl.v aC),(VI 0)]),(jL,[(Sl.v bI),(VI bJ)]),(jM,[(Sl.v cW)])]->
 ∀(Im:Heap),Fr (In [vO]) CY Im->Vars Im [(vO,[(Sl.v bI),(VI bJ)]),(rf,[(Sl.v bI),(VI bJ)]),(jK,[(Sl.v lW),(VI lX)]),(k8,[(Sl.v lU),(VI lV)]),(iK,[(Sl.v aC),(VI 0)]),(jL,[(Sl.v bI),(VI bJ)]),(jM,[(Sl.v cW)])]->
 J_3 rf bI bJ vO bI bJ Im)/\
 (∀(rh:Nat)(FQ:Heap),sL.size<=rh->Fr (In []) sL FQ->Vars FQ [(rh,[(Sl.v aC),(VI 0)]),(jK,[(Sl.v lW),(VI lX)]),(k8,[(Sl.v lU),(VI lV)]),(iK,[(Sl.v aC),(VI 0)]),(jL,[(Sl.v bI),(VI bJ)]),(jM,[(Sl.v cW)])]->
 ∀(vP:Nat)(OM:Heap),FQ.size<=vP->Fr (In []) FQ OM->Vars OM [(vP,[(Sl.v aC),(VI 0)]),(rh,[(Sl.v aC),(VI 0)]),(jK,[(Sl.v lW),(VI lX)]),(k8,[(Sl.v lU),(VI lV)]),(iK,[(Sl.v aC),(VI 0)]),(jL,[(Sl.v bI),(VI bJ)]),(jM,[(Sl.v cW)])]->
 ∀(jY:Heap),Fr (In [vP]) OM jY->Vars jY [(vP,[(Sl.v bI),(VI bJ)]),(rh,[(Sl.v aC),(VI 0)]),(jK,[(Sl.v lW),(VI lX)]),(k8,[(Sl.v lU),(VI lV)]),(iK,[(Sl.v aC),(VI 0)]),(jL,[(Sl.v bI),(VI bJ)]),(jM,[(Sl.v cW)])]->
 ∀(Dc:Heap),Fr (In [rh]) jY Dc->Vars Dc [(vP,[(Sl.v bI),(VI bJ)]),(rh,[(Sl.v bI),(VI bJ)]),(jK,[(Sl.v lW),(VI lX)]),(k8,[(Sl.v lU),(VI lV)]),(iK,[(Sl.v aC),(VI 0)]),(jL,[(Sl.v bI),(VI bJ)]),(jM,[(Sl.v cW)])]->
 J_3 vP bI bJ rh bI bJ Dc))/\
 ∀(lT:Nat)(x_9:Sl)(LV:Int)(k7:Nat)(ZA:Sl)(ZB:Int)(ZC:Heap),J_3 lT x_9 LV k7 ZA ZB ZC->Vars ZC [(k7,[(Sl.v ZA),(VI ZB)]),(lT,[(Sl.v x_9),(VI LV)]),(jK,[(Sl.v lW),(VI lX)]),(k8,[(Sl.v lU),(VI lV)]),(iK,[(Sl.v aC),(VI 0)]),(jL,[(Sl.v bI),(VI bJ)]),(jM,[(Sl.v cW)])]->
 ∃J_4:Nat->Int->Sl->Int->Heap->Prop,(∃n0:Nat,J_4 n0 0 ZA ZB ZC)/\
 ∀(n_2:Nat)(Ks:Int)(Pb:Sl)(Pc:Int)(Tq:Heap),J_4 n_2 Ks Pb Pc Tq->Vars Tq [(k7,[(Sl.v Pb),(VI Pc)]),(lT,[(Sl.v x_9),(VI LV)]),(jK,[(Sl.v lW),(VI lX)]),(k8,[(Sl.v lU),(VI lV)]),(iK,[(Sl.v aC),(VI 0)]),(jL,[(Sl.v bI),(VI bJ)]),(jM,[(Sl.v cW)])]->
 ((decide (Ks<pu))=true->
 aE P 177 #[(Value.agg #[(Sl.v cW)]),(Value.agg #[(Sl.v Pb),(VI Pc)])] Tq fun ajy acA=>∃Pd:Sl,∃Pe:Int,∃acB:Bool,ajy=(Value.tuple #[(Value.agg #[(Sl.v Pd),(VI Pe)]),(VB acB)])/\Vars acA [(k7,[(Sl.v Pb),(VI Pc)]),(lT,[(Sl.v x_9),(VI LV)]),(jK,[(Sl.v lW),(VI lX)]),(k8,[(Sl.v lU),(VI lV)]),(iK,[(Sl.v aC),(VI 0)]),(jL,[(Sl.v bI),(VI bJ)]),(jM,[(Sl.v cW)])]/\
 ∀(Dd:Heap),Fr (In [k7]) acA Dd->Vars Dd [(k7,[(Sl.v Pd),(VI Pe)]),(lT,[(Sl.v x_9),(VI LV)]),(jK,[(Sl.v lW),(VI lX)]),(k8,[(Sl.v lU),(VI lV)]),(iK,[(Sl.v aC),(VI 0)]),(jL,[(Sl.v bI),(VI bJ)]),(jM,[(Sl.v cW)])]->
 ∃m:Nat,m<n_2/\J_4 m (aL (Ks+1)) Pd Pe Dd)/\
 ((decide (Ks<pu))=false->
 ∃Oa:Nat->Int->Sl->Int->Sl->Int->Heap->Prop,(∃n0:Nat,Oa n0 0 Pb Pc x_9 LV Tq)/\
 ∀(n_3:Nat)(fR:Int)(uE:Sl)(uF:Int)(uG:Sl)(uH:Int)(ZD:Heap),Oa n_3 fR uE uF uG uH ZD->Vars ZD [(k7,[(Sl.v uE),(VI uF)]),(lT,[(Sl.v uG),(VI uH)]),(jK,[(Sl.v lW),(VI lX)]),(k8,[(Sl.v lU),(VI lV)]),(iK,[(Sl.v aC),(VI 0)]),(jL,[(Sl.v bI),(VI bJ)]),(jM,[(Sl.v cW)])]->
 aE P 226 #[(Value.agg #[(Sl.v uG),(VI uH)]),(Value.agg #[(Sl.v uE),(VI uF)])] ZD fun ajz IH=>∃Pf:Bool,ajz=(VB Pf)/\Vars IH [(k7,[(Sl.v uE),(VI uF)]),(lT,[(Sl.v uG),(VI uH)]),(jK,[(Sl.v lW),(VI lX)]),(k8,[(Sl.v lU),(VI lV)]),(iK,[(Sl.v aC),(VI 0)]),(jL,[(Sl.v bI),(VI bJ)]),(jM,[(Sl.v cW)])]/\
 ((! Pf)=true->
 ((decide (fR<=2000))=true->
 aE P 177 #[(Value.agg #[(Sl.v cW)]),(Value.agg #[(Sl.v uG),(VI uH)])] IH fun ajA acC=>∃FV:Sl,∃FW:Int,∃acD:Bool,ajA=(Value.tuple #[(Value.agg #[(Sl.v FV),(VI FW)]),(VB acD)])/\Vars acC [(k7,[(Sl.v uE),(VI uF)]),(lT,[(Sl.v uG),(VI uH)]),(jK,[(Sl.v lW),(VI lX)]),(k8,[(Sl.v lU),(VI lV)]),(iK,[(Sl.v aC),(VI 0)]),(jL,[(Sl.v bI),(VI bJ)]),(jM,[(Sl.v cW)])]/\
 ∀(De:Heap),Fr (In [lT]) acC De->Vars De [(k7,[(Sl.v uE),(VI uF)]),(lT,[(Sl.v FV),(VI FW)]),(jK,[(Sl.v lW),(VI lX)]),(k8,[(Sl.v lU),(VI lV)]),(iK,[(Sl.v aC),(VI 0)]),(jL,[(Sl.v bI),(VI bJ)]),(jM,[(Sl.v cW)])]->
 aE P 177 #[(Value.agg #[(Sl.v cW)]),(Value.agg #[(Sl.v uE),(VI uF)])] De fun ajB Ab=>∃II:Sl,∃IJ:Int,∃ZE:Bool,ajB=(Value.tuple #[(Value.agg #[(Sl.v II),(VI IJ)]),(VB ZE)])/\Vars Ab [(k7,[(Sl.v uE),(VI uF)]),(lT,[(Sl.v FV),(VI FW)]),(jK,[(Sl.v lW),(VI lX)]),(k8,[(Sl.v lU),(VI lV)]),(iK,[(Sl.v aC),(VI 0)]),(jL,[(Sl.v bI),(VI bJ)]),(jM,[(Sl.v cW)])]/\
 ∀(Ip:Heap),Fr (In [k7]) Ab Ip->Vars Ip [(k7,[(Sl.v II),(VI IJ)]),(lT,[(Sl.v FV),(VI FW)]),(jK,[(Sl.v lW),(VI lX)]),(k8,[(Sl.v lU),(VI lV)]),(iK,[(Sl.v aC),(VI 0)]),(jL,[(Sl.v bI),(VI bJ)]),(jM,[(Sl.v cW)])]->
 ∃m:Nat,m<n_3/\Oa m (aL (fR+1)) II IJ FV FW Ip)/\
 ((decide (fR<=2000))=false->
 DQ P fR pu iK IH k7 uE uF lT uG uH jK lW lX k8 lU lV bI bJ jL jM cW K))/\
 ((! Pf)=false->
 DQ P fR pu iK IH k7 uE uF lT uG uH jK lW lX k8 lU lV bI bJ jL jM cW K))))
def acE(P:Program)(cW:Sl)(bI:Sl)(bJ:Int)(h:Heap)(K:Value->Heap->Prop):Prop:=
 ∀(jM:Nat)(jL:Nat)(iK:Nat)(P6:Heap),h.size<=jM->h.size<=jL->h.size<=iK->Fr (In []) h P6->Vars P6 [(iK,[(Sl.v aC),(VI 0)]),(jL,[(Sl.v bI),(VI bJ)]),(jM,[(Sl.v cW)])]->
 ∃J_1:Nat->Sl->Int->Nat->Sl->Int->Heap->Prop,((∀(LP:Nat)(nS:Heap),P6.size<=LP->Fr (In []) P6 nS->Vars nS [(LP,[(Sl.v aC),(VI 0)]),(iK,[(Sl.v aC),(VI 0)]),(jL,[(Sl.v bI),(VI bJ)]),(jM,[(Sl.v cW)])]->
 ∀(Kr:Nat)(R5:Heap),nS.size<=Kr->Fr (In []) nS R5->Vars R5 [(Kr,[(Sl.v aC),(VI 0)]),(LP,[(Sl.v aC),(VI 0)]),(iK,[(Sl.v aC),(VI 0)]),(jL,[(Sl.v bI),(VI bJ)]),(jM,[(Sl.v cW)])]->
 ∀(h_6:Heap),Fr (In [LP]) R5 h_6->Vars h_6 [(Kr,[(Sl.v aC),(VI 0)]),(LP,[(Sl.v bI),(VI bJ)]),(iK,[(Sl.v aC),(VI 0)]),(jL,[(Sl.v bI),(VI bJ)]),(jM,[(Sl.v cW)])]->
 ∀(h_7:Heap),Fr (In [Kr]) h_6 h_7->Vars h_7 [(Kr,[(Sl.v bI),(VI bJ)]),(LP,[(Sl.v bI),(VI bJ)]),(iK,[(Sl.v aC),(VI 0)]),(jL,[(Sl.v bI),(VI bJ)]),(jM,[(Sl.v cW)])]->
 J_1 LP bI bJ Kr bI bJ h_7)/\
 (∀(LR:Nat)(h_8:Heap),P6.size<=LR->Fr (In []) P6 h_8->Vars h_8 [(LR,[(Sl.v aC),(VI 0)]),(iK,[(Sl.v aC),(VI 0)]),(jL,[(Sl.v bI),(VI bJ)]),(jM,[(Sl.v cW)])]->
 ∀(Qf:Nat)(R9:Heap),h_8.size<=Qf->Fr (In []) h_8 R9->Vars R9 [(Qf,[(Sl.v aC),(VI 0)]),(LR,[(Sl.v aC),(VI 0)]),(iK,[(Sl.v aC),(VI 0)]),(jL,[(Sl.v bI),(VI bJ)]),(jM,[(Sl.v cW)])]->
 ∀(ZF:Heap),Fr (In [Qf]) R9 ZF->Vars ZF [(Qf,[(Sl.v bI),(VI bJ)]),(LR,[(Sl.v aC),(VI 0)]),(iK,[(Sl.v aC),(VI 0)]),(jL,[(Sl.v bI),(VI bJ)]),(jM,[(Sl.v cW)])]->
 ∀(ZG:Heap),Fr (In [LR]) ZF ZG->Vars ZG [(Qf,[(Sl.v bI),(VI bJ)]),(LR,[(Sl.v bI),(VI bJ)]),(iK,[(Sl.v aC),(VI 0)]),(jL,[(Sl.v bI),(VI bJ)]),(jM,[(Sl.v cW)])]->
 J_1 Qf bI bJ LR bI bJ ZG))/\
 ∀(k8:Nat)(x_1:Sl)(x_2:Int)(jK:Nat)(x_3:Sl)(x_4:Int)(ZH:Heap),J_1 k8 x_1 x_2 jK x_3 x_4 ZH->Vars ZH [(jK,[(Sl.v x_3),(VI x_4)]),(k8,[(Sl.v x_1),(VI x_2)]),(iK,[(Sl.v aC),(VI 0)]),(jL,[(Sl.v bI),(VI bJ)]),(jM,[(Sl.v cW)])]->
 ∃J_2:Nat->Bool->Int->Sl->Int->Sl->Int->Heap->Prop,(∃n0:Nat,J_2 n0 false 1 x_3 x_4 x_1 x_2 ZH)/\
 ∀(n_1:Nat)(pw:Bool)(Kt:Int)(lW:Sl)(lX:Int)(lU:Sl)(lV:Int)(sP:Heap),J_2 n_1 pw Kt lW lX lU lV sP->Vars sP [(jK,[(Sl.v lW),(VI lX)]),(k8,[(Sl.v lU),(VI lV)]),(iK,[(Sl.v aC),(VI 0)]),(jL,[(Sl.v bI),(VI bJ)]),(jM,[(Sl.v cW)])]->
 ((decide ((aL (2*Kt))<=4000))=true->
 ((! pw)=true->
 aE P 177 #[(Value.agg #[(Sl.v cW)]),(Value.agg #[(Sl.v lU),(VI lV)])] sP fun Vm rc=>∃j6:Sl,∃j7:Int,∃Pg:Bool,Vm=(Value.tuple #[(Value.agg #[(Sl.v j6),(VI j7)]),(VB Pg)])/\Vars rc [(jK,[(Sl.v lW),(VI lX)]),(k8,[(Sl.v lU),(VI lV)]),(iK,[(Sl.v aC),(VI 0)]),(jL,[(Sl.v bI),(VI bJ)]),(jM,[(Sl.v cW)])]/\
 ∀(qj:Nat)(ZI:Heap),rc.size<=qj->Fr (In []) rc ZI->Vars ZI [(qj,[(Sl.v j6),(VI j7)]),(jK,[(Sl.v lW),(VI lX)]),(k8,[(Sl.v lU),(VI lV)]),(iK,[(Sl.v aC),(VI 0)]),(jL,[(Sl.v bI),(VI bJ)]),(jM,[(Sl.v cW)])]->
 aE P 177 #[(Value.agg #[(Sl.v cW)]),(Value.agg #[(Sl.v lW),(VI lX)])] ZI fun Vn FU=>∃pq:Sl,∃pt:Int,∃Ph:Bool,Vn=(Value.tuple #[(Value.agg #[(Sl.v pq),(VI pt)]),(VB Ph)])/\Vars FU [(qj,[(Sl.v j6),(VI j7)]),(jK,[(Sl.v lW),(VI lX)]),(k8,[(Sl.v lU),(VI lV)]),(iK,[(Sl.v aC),(VI 0)]),(jL,[(Sl.v bI),(VI bJ)]),(jM,[(Sl.v cW)])]/\
 ((! Pg)=true->
 DP P FU iK pq pt qj j6 j7 jK lW lX k8 lU lV bI bJ jL jM cW K)/\
 ((! Pg)=false->
 ((! Ph)=true->
 DP P FU iK pq pt qj j6 j7 jK lW lX k8 lU lV bI bJ jL jM cW K)/\
 ((! Ph)=false->
 ∀(uh:Nat)(yq:Heap),FU.size<=uh->Fr (In []) FU yq->Vars yq [(uh,[(Sl.v pq),(VI pt)]),(qj,[(Sl.v j6),(VI j7)]),(jK,[(Sl.v lW),(VI lX)]),(k8,[(Sl.v lU),(VI lV)]),(iK,[(Sl.v aC),(VI 0)]),(jL,[(Sl.v bI),(VI bJ)]),(jM,[(Sl.v cW)])]->
 aE P 177 #[(Value.agg #[(Sl.v cW)]),(Value.agg #[(Sl.v pq),(VI pt)])] yq fun Vo Pj=>∃vw:Sl,∃vx:Int,∃Pk:Bool,Vo=(Value.tuple #[(Value.agg #[(Sl.v vw),(VI vx)]),(VB Pk)])/\Vars Pj [(uh,[(Sl.v pq),(VI pt)]),(qj,[(Sl.v j6),(VI j7)]),(jK,[(Sl.v lW),(VI lX)]),(k8,[(Sl.v lU),(VI lV)]),(iK,[(Sl.v aC),(VI 0)]),(jL,[(Sl.v bI),(VI bJ)]),(jM,[(Sl.v cW)])]/\
 ((! Pk)=true->
 ∀(Aa:Nat)(ue:Heap),Pj.size<=Aa->Fr (In [iK]) Pj ue->Vars ue [(Aa,[(Sl.v vw),(VI vx)]),(uh,[(Sl.v pq),(VI pt)]),(qj,[(Sl.v j6),(VI j7)]),(jK,[(Sl.v lW),(VI lX)]),(k8,[(Sl.v lU),(VI lV)]),(iK,[(Sl.v bI),(VI bJ)]),(jL,[(Sl.v bI),(VI bJ)]),(jM,[(Sl.v cW)])]->
 K (Value.tuple #[(VI 0),(Value.agg #[(Sl.v bI),(VI bJ)]),(VI 0)]) ue)/\
 ((! Pk)=false->
 ∀(Aa:Nat)(lS:Heap),Pj.size<=Aa->Fr (In [jK,k8]) Pj lS->Vars lS [(Aa,[(Sl.v vw),(VI vx)]),(uh,[(Sl.v pq),(VI pt)]),(qj,[(Sl.v j6),(VI j7)]),(jK,[(Sl.v vw),(VI vx)]),(k8,[(Sl.v j6),(VI j7)]),(iK,[(Sl.v aC),(VI 0)]),(jL,[(Sl.v bI),(VI bJ)]),(jM,[(Sl.v cW)])]->
 aE P 226 #[(Value.agg #[(Sl.v j6),(VI j7)]),(Value.agg #[(Sl.v vw),(VI vx)])] lS fun ajK CV=>∃Ux:Bool,ajK=(VB Ux)/\Vars CV [(Aa,[(Sl.v vw),(VI vx)]),(uh,[(Sl.v pq),(VI pt)]),(qj,[(Sl.v j6),(VI j7)]),(jK,[(Sl.v vw),(VI vx)]),(k8,[(Sl.v j6),(VI j7)]),(iK,[(Sl.v aC),(VI 0)]),(jL,[(Sl.v bI),(VI bJ)]),(jM,[(Sl.v cW)])]/\
 ∃m:Nat,m<n_1/\J_2 m Ux (aL (Kt+1)) vw vx j6 j7 CV))))/\
 ((! pw)=false->
 zp P pw iK sP jK lW lX k8 lU lV bI bJ jL jM cW K))/\
 ((decide ((aL (2*Kt))<=4000))=false->
 zp P pw iK sP jK lW lX k8 lU lV bI bJ jL jM cW K)
theorem ajL(cW:Sl)(bI:Sl)(bJ:Int)(h:Heap)(K:Value->Heap->Prop)(H:acE Tryz.prog cW bI bJ h K):aE Tryz.prog 181 #[(Value.agg #[(Sl.v cW)]),(Value.agg #[(Sl.v bI),(VI bJ)])] h K:=agh cW bI bJ h K H
theorem kv{S S':Nat->Prop}{h:Heap}{g w:Sl}{aD:List (List Int)}{s:St}(G:bU S h g aD)(H:aQ S' h w s.1)(W:gj aD s){p:Int}(hp:p=s.2)(K:Value->Heap->Prop)(HK:∀(t:Sl) h',aQ (fun k=>S' k\/h.size<=k) h' t ((cA aD s).getD s).1->Fr No h h'->K (.tuple #[.agg #[t.v,VI ((cA aD s).getD s).2],VB (cA aD s).isSome]) h'):aE Tryz.prog 177 #[.agg #[g.v],.agg #[w.v,VI p]] h K:=by
 subst hp
 refine oM G H W _ (fun hn h' f=> ?_) (fun s' hs t h' o f=> ?_)
 ·have:=HK w h' (by rw[hn];exact(H.no f).mono fun k hk=> .inl hk) f
  rw[hn]at this
  exact this
 ·have:=HK t h' (by rw[hs];exact cM.mono o.eQ fun k hk=> .inr hk.1) f
  rw[hs]at this
  exact this
theorem nC{g:List (List Int)}{s:St}(W:gj g s):∀{n:Nat}{t:St},sq g s n=some t->gj g t
 |0,t,h=>by rw[sq]at h;cases h;exact W
 |n+1,t,h=>by
  rw[sq]at h
  cases hn:sq g s n with
  |none=>rw[hn]at h;cases h
  |some u=>rw[hn]at h;exact(nC W hn).step h
theorem zq{g:List (List Int)}{s0:St}:∀(f n:Nat)(s:St),f+n=2001->sq g s0 n=some s->(∀j,1<=j->j<n->sq g s0 j≠some s0)->((bF g (jH s0.1 s0.2) 1 f (n:Int) () s).1=0/\∀j,1<=j->j<=2000->sq g s0 j≠some s0)\/∃a:Nat,(bF g (jH s0.1 s0.2) 1 f (n:Int) () s).1=(a:Int)/\1<=a/\a<=2000/\sq g s0 a=some s0/\∀j,1<=j->j<a->sq g s0 j≠some s0
 |0,n,s,hn,hs,hj=> .inl ⟨rfl,fun j h1 h2=>hj j h1 (by omega)⟩
 |f+1,n,s,hn,hs,hj=>by
  rw[bF]
  have stop:cA g s=none->(1<=n->s≠s0)->∀j,1<=j->j<=2000->sq g s0 j≠some s0:=fun he dZ j h1 h2 hc=>by
   by_cases h3:j<n
   ·exact hj j h1 h3 hc
   ·by_cases h4:j=n
    ·rw[h4,hs]at hc
     exact dZ (by omega) (Option.some.inj hc)
    ·have:sq g s0 (n+1)=none:=by rw[sq,hs];exact he
     have:=wF this (j-(n+1))
     rw[show n+1+(j-(n+1))=j by omega]at this
     rw[this]at hc;cases hc
  have next:∀s',cA g s=some s'->(1<=n->s≠s0)->(∀j,1<=j->j<n+1->sq g s0 j≠some s0):=fun s' he dZ j h1 h2=>by
   by_cases h3:j<n
   ·exact hj j h1 h3
   ·have:j=n:=by omega
    subst this
    rw[hs]
    exact fun hc=>dZ (by omega) (Option.some.inj hc)
  by_cases h1:(1:Int)<=(n:Int)
  ·rw[if_pos h1]
   by_cases h2:(jH s0.1 s0.2 () s).1=true
   ·rw[if_pos h2]
    have e:s=s0:=by
     simp only[jH,decide_eq_true_eq]at h2
     exact Prod.ext h2.2.symm h2.1.symm
    exact .inr ⟨n,rfl,by omega,by omega,by rw[hs,e],hj⟩
   ·rw[if_neg h2]
    have dZ:s≠s0:=fun e=>h2 (by simp[jH,e])
    cases he:cA g s with
    |none=>exact .inl ⟨rfl,stop he fun _=>dZ⟩
    |some s'=>
     have:=zq f (n+1) s' (by omega) (by rw[sq,hs];exact he) (next s' he fun _=>dZ)
     simpa using this
  ·rw[if_neg h1]
   cases he:cA g s with
   |none=>exact .inl ⟨rfl,stop he fun h=>absurd h (by omega)⟩
   |some s'=>
    have:=zq f (n+1) s' (by omega) (by rw[sq,hs];exact he) (next s' he fun h=>absurd h (by omega))
    simpa using this
theorem BB{g:List (List Int)}{s0 s:St}{m n a:Nat}(R:sE g s0 m n)(ha:m<=a)(hs:sq g s0 a=some s):((bF g (jH s.1 s.2) 1 2001 0 () s).1=0/\2000<n-m)\/((bF g (jH s.1 s.2) 1 2001 0 () s).1=((n-m:Nat):Int)/\n-m<=2000):=by
 have tf:=R.lt
 have key:∀j,sq g s j=sq g s0 (a+j):=fun j=>by rw[yb,hs];rfl
 have ZJ:∀j,1<=j->(sq g s j=some s↔j%(n-m)=0):=fun j hj=>by
  rw[key,<-hs]
  have:=R.iff (a:=a) (b:=a+j) (by omega)
  rw[show a+j-a=j by omega]at this
  constructor
  ·intro h;exact(this.1 h.symm).2
  ·intro h;exact(this.2 ⟨ha,h⟩).symm
 rcases zq (g:=g) (s0:=s) 2001 0 s rfl rfl (fun j h1 h2=>by omega)with⟨h1,h2⟩|⟨b,h1,h2,h3,h4,h5⟩
 ·refine .inl ⟨h1,?_⟩
  by_cases hc:n-m<=2000
  ·exact absurd ((ZJ (n-m) (by omega)).2 (Nat.mod_self _)) (h2 (n-m) (by omega) hc)
  ·omega
 ·have hb:=(ZJ b h2).1 h4
  have hle:n-m<=b:=by
   by_cases hc:n-m<=b
   ·exact hc
   ·rw[Nat.mod_eq_of_lt (by omega)]at hb;omega
  have heq:n-m=b:=by
   by_cases hc:n-m<b
   ·exact absurd ((ZJ (n-m) (by omega)).2 (Nat.mod_self _)) (h5 (n-m) (by omega) hc)
   ·omega
  exact .inr ⟨h1.trans (by rw[heq]),by omega⟩
theorem FY{S':Nat->Prop}{h:Heap}{g w:Sl}{aD:List (List Int)}{rs:List Int}{p:Int}{m n:Nat}(R:sE aD (rs,p) m n){K:Value->Heap->Prop}(HN:(∀m k,sE aD (rs,p) m k->2000<k)->∀h',Fr No h h'->K (.tuple #[VI 0,.agg #[w.v,VI p],VI 0]) h')(HS:∀m k s,sE aD (rs,p) m k->k<=2000->sq aD (rs,p) m=some s->∀t h',aQ (fun k=>S' k\/h.size<=k) h' t s.1->Fr No h h'->K (.tuple #[VI m,.agg #[t.v,VI s.2],VI ((k:Int)-m)]) h'){b1 b2 b3 b4 b5 b13 b14:Nat}(iR:h.size<=b3){X:Heap}(fX:Fr (fun k=>h.size<=k) h X){x5 x7 x15 x17:Sl}{x6 x8 x16:Int}{i:Nat}{s:St}(hs:sq aD (rs,p) i=some s)(hi:i=m\/i=2001/\2000<n)(Q:aQ (fun k=>(S' k/\k<h.size)\/(h.size<=k/\k≠b3)) X x17 s.1)(wq:i<=2001)(xL:n-m<=2000):DQ Tryz.prog (i:Int) ((n-m:Nat):Int) b3 X b14 x15 x16 b13 x17 s.2 b5 x5 x6 b4 x7 x8 w p b2 b1 g K:=by
 have tf:=R.lt
 unfold DQ
 rw[aG _ (by omega) (by omega)]
 have vp:∀{Y:Heap},Fr (In [b3]) X Y->Fr No h Y:=fun f=>(fX.trans (f.mono fun k _ hk=>by simp[In]at hk;omega)).mono fun k hk aI=>absurd aI (by omega)
 refine⟨fun e Y fY hL=> ?_,fun e Y fY hL=> ?_⟩
 ·simp only[decide_eq_true_eq]at e
  refine HN (fun m' k' R'=> ?_) Y (vp fY)
  obtain⟨rfl,rfl⟩:=R.Wa R'
  rcases hi with rfl|⟨_,h2⟩
  ·omega
  ·exact h2
 ·simp only[decide_eq_false_iff_not]at e
  rcases hi with rfl|⟨rfl,h2⟩
  ·have:=HS i n s R (by omega) hs x17 Y ((Q.fr fY fun k hk aI=>by simp[In]at aI;rcases hk with hk|hk<;>omega).mono fun k hk=>by rcases hk with hk|hk;exact .inl hk.1;exact .inr hk.1) (vp fY)
   rw[show((n-i:Nat):Int)=(n:Int)-i by omega]
   exact this
  ·omega
set_option maxHeartbeats 4000000 in
theorem Pl{S S':Nat->Prop}{h:Heap}{g w:Sl}{aD:List (List Int)}{rs:List Int}{p:Int}(G:bU S h g aD)(H:aQ S' h w rs)(W:gj aD (rs,p)){K:Value->Heap->Prop}(HN:(∀m k,sE aD (rs,p) m k->2000<k)->∀h',Fr No h h'->K (.tuple #[VI 0,.agg #[w.v,VI p],VI 0]) h')(HS:∀m k s,sE aD (rs,p) m k->k<=2000->sq aD (rs,p) m=some s->∀t h',aQ (fun k=>S' k\/h.size<=k) h' t s.1->Fr No h h'->K (.tuple #[VI m,.agg #[t.v,VI s.2],VI ((k:Int)-m)]) h'){b1 b2 b3 b4 b5:Nat}(hb:h.size<=b1/\h.size<=b2/\h.size<=b3/\h.size<=b4/\h.size<=b5){X:Heap}(fX:Fr (fun k=>h.size<=k) h X){T:Nat->Prop}{x5 x7:Sl}{x6:Int}{a:Nat}{s:St}(met:Bool)(hs:sq aD (rs,p) a=some s)(Q:aQ T X x7 s.1)(ajN:met=true->1<=a/\sq aD (rs,p) a=sq aD (rs,p) (2*a))(hL:Vars X [(b5,[x5.v,VI x6]),(b4,[x7.v,VI s.2]),(b3,[aC.v,VI 0]),(b2,[w.v,VI p]),(b1,[g.v])])(hT:(!met)=true->∀h':Heap,Fr (In [b3]) X h'->K (.tuple #[VI 0,.agg #[w.v,VI p],VI 0]) h'):zp Tryz.prog met b3 X b5 x5 x6 b4 x7 s.2 w p b2 b1 g K:=by
 unfold zp
 obtain⟨eD,dK,iR,GF,P9⟩:=hb
 have zX:=fX.size
 have wl:=W.len
 have G0:bU (fun k=>S k/\k<h.size) h g aD:=G.xd
 have H0:aQ (fun k=>S' k/\k<h.size) h w rs:=cM.lt H
 refine⟨fun e h' f _=>hT e h' f,?_⟩
 intro e
 have hm:=ajN (by simpa using e)
 obtain⟨m,n,hn,R⟩:=VZ (g:=aD) (s:=(rs,p)) (2*a) (a:=a) (by omega) hm.2 (by rw[hs];exact fun h=>by cases h)
 have tf:=R.lt
 have hma:m<=a:=((R.iff (a:=a) (b:=2*a) (by omega)).1 hm.2).1
 have Ws:gj aD s:=nC W hs
 have GX:bU (fun k=>S k/\k<h.size) X g aD:=G0.fr fX fun k hk aI=>by omega
 have Pm:∀{Y:Heap},Fr (fun k=>h.size<=k) h Y->Fr No h Y:=fun f=>f.mono fun k hk aI=>absurd aI (by omega)
 have up:∀{Y Z:Heap}{l:List Nat},(∀k,k∈l->h.size<=k)->Fr (In l) Y Z->Fr (fun k=>h.size<=k) Y Z:=fun hl f=>f.mono fun k _ hk=>hl k hk
 have all:=R.all
 refine K4 GX (show aQ T X x7 (s.1,s.2).1 from Q) s.2 Ws _ fun h29 f29=>⟨_,rfl,hL.aB f29,fun e1 h30 f30 aiw=> ?_,fun e1=> ?_⟩
 ·have Pn:=fX.trans f29.aB
  refine HN (fun m' k' R'=> ?_) h30 (Pm (Pn.trans (f30.mono fun k _ hk=>by simp[In]at hk;omega)))
  obtain⟨rfl,rfl⟩:=R.Wa R'
  simp only[decide_eq_true_eq]at e1
  rcases BB R hma hs with⟨_,h2⟩|⟨h1,h2⟩
  ·omega
  ·rw[show((s.1,s.2):St)=s from rfl]at e1;rw[h1]at e1;omega
 simp only[decide_eq_false_iff_not]at e1
 have xL:(bF aD (jH s.1 s.2) 1 2001 0 () (s.1,s.2)).1=((n-m:Nat):Int)/\n-m<=2000:=by
  rcases BB R hma hs with⟨h1,h2⟩|h
  ·exact absurd h1 e1
  ·exact h
 rw[xL.1]
 have xL:=xL.2
 have Pn:=fX.trans f29.aB
 have z29:=Pn.size
 have aoW:=hL.aB f29
 refine⟨fun b13 x9 Ny b14 NA Qa h'=>x9=w/\Ny=p/\NA=w/\Qa=p/\h29.size<=b13/\h29.size<=b14/\Fr (fun k=>h.size<=k) h h',⟨fun b15 h31 ZK f31 Rg b16 VA ajO f32 ajP h33 f33 ajQ h34 f34 VC=> ?_,fun b17 h35 ZL f35 abC b18 h36 ajR f36 Ri h37 f37 NB h38 f38 ajS=> ?_⟩,?_⟩
 ·have:=f31.size
  exact⟨rfl,rfl,rfl,rfl,ZK,by omega,(((Pn.trans f31.aF.aB).trans f32.aF.aB).trans (f33.mono fun k _ hk=>by simp[In]at hk;omega)).trans (f34.mono fun k _ hk=>by simp[In]at hk;omega)⟩
 ·have:=f35.size
  exact⟨rfl,rfl,rfl,rfl,by omega,ZL,(((Pn.trans f35.aF.aB).trans f36.aF.aB).trans (f37.mono fun k _ hk=>by simp[In]at hk;omega)).trans (f38.mono fun k _ hk=>by simp[In]at hk;omega)⟩
 rintro b13 x9 Ny b14 NA Qa K8 ⟨rfl,rfl,rfl,rfl,ao1,ao2,f39⟩ ND
 have z39:=f39.size
 have l14:b14<K8.size:=ND.head.lt
 have l13:b13<K8.size:=ND.tail.head.lt
 have l3:b3<K8.size:=ND.tail.tail.tail.tail.head.lt
 have inc:∀{k:Nat},((S' k/\k<h.size)\/K8.size<=k)->(S' k/\k<h.size)\/(h.size<=k/\k≠b3):=fun hk=>by
  rcases hk with hk|hk
  ·exact .inl hk
  ·exact .inr (by omega)
 have H39:aQ (fun k=>(S' k/\k<h.size)\/K8.size<=k) K8 NA rs:=(H0.fr f39 fun k hk aI=>by omega).mono fun k hk=> .inl hk
 refine⟨fun n2 i x q h'=>∃(j:Nat)(t:St),i=(j:Int)/\n2+j=n-m/\sq aD (rs,Qa) j=some t/\q=t.2/\aQ (fun k=>(S' k/\k<h.size)\/K8.size<=k) h' x t.1/\Fr (fun k=>h.size<=k) h h'/\K8.size<=h'.size,⟨n-m,0,(rs,Qa),rfl,rfl,rfl,rfl,H39,f39,Nat.le_refl _⟩,?_⟩
 rintro n2 i x q h40 ⟨j,t,rfl,ej,hj,rfl,Q40,f40,z40⟩ ajT
 have Wt:gj aD t:=nC W hj
 have G40:bU (fun k=>S k/\k<h.size) h40 g aD:=G0.fr f40 fun k hk aI=>by omega
 refine⟨fun e2=> ?_,fun e2=> ?_⟩
 ·simp only[decide_eq_true_eq]at e2
  refine kv G40 Q40 Wt rfl _ fun y h41 Y41 f41=>⟨y,_,_,rfl,ajT.aB f41,fun h42 f42 aiD=> ?_⟩
  have z41:=f41.size
  rw[aG _ (by omega) (by omega)]
  have MD:cA aD t≠none:=fun hh=>all (j+1) (by rw[sq,hj];exact hh)
  obtain⟨t',ZM⟩:=Option.ne_none_iff_exists'.1 MD
  rw[ZM]at Y41⊢
  simp only[Option.getD_some]at Y41⊢
  refine⟨n2-1,by omega,j+1,t',by omega,by omega,by rw[sq,hj];exact ZM,rfl,(Y41.fr f42 fun k hk aI=>by simp[In]at aI;rcases hk with(hk|hk)|hk<;>omega).mono fun k hk=>by rcases hk with hk|hk;exact hk;exact .inr (by omega),(f40.trans f41.aB).trans (f42.mono fun k _ hk=>by simp[In]at hk;omega),by have:=f42.size;omega⟩
 simp only[decide_eq_false_iff_not]at e2
 have ej2:j=n-m:=by omega
 subst ej2
 have H40:aQ (fun k=>(S' k/\k<h.size)\/K8.size<=k) h40 NA rs:=(H0.fr f40 fun k hk aI=>by omega).mono fun k hk=> .inl hk
 refine⟨fun n3 st y q2 z q3 h'=>∃(i:Nat)(u v:St),st=(i:Int)/\n3+i=2001/\sq aD (rs,Qa) i=some u/\sq aD (rs,Qa) (i+(n-m))=some v/\q3=u.2/\q2=v.2/\aQ (fun k=>(S' k/\k<h.size)\/K8.size<=k) h' z u.1/\aQ (fun k=>(S' k/\k<h.size)\/K8.size<=k) h' y v.1/\(∀j,j<i->j<m)/\Fr (fun k=>h.size<=k) h h'/\K8.size<=h'.size,⟨2001,0,(rs,Qa),t,rfl,rfl,rfl,by rw[Nat.zero_add];exact hj,rfl,rfl,H40,Q40,fun j hj=>by omega,f40,z40⟩,?_⟩
 rintro n3 st y q2 z q3 h43 ⟨i,u,v,rfl,en3,hu,hv,rfl,rfl,Z43,Y43,ajV,f43,z43⟩ acH
 have Wu:gj aD u:=nC W hu
 have Wv:gj aD v:=nC W hv
 have zr:(u.2=v.2/\u.1=v.1)↔m<=i:=by
  have h1:=R.iff (a:=i) (b:=i+(n-m)) (by omega)
  rw[hu,hv,show i+(n-m)-i=n-m by omega,Nat.mod_self]at h1
  constructor
  ·intro hh;exact(h1.1 (congrArg some (Prod.ext hh.2 hh.1))).1
  ·intro hh
   have:=Option.some.inj (h1.2 ⟨hh,rfl⟩)
   rw[this];exact⟨rfl,rfl⟩
 refine xH Z43 Y43 u.2 v.2 _ fun h44 f44=>⟨_,rfl,acH.aB f44,fun e3=>⟨fun e4=> ?_,fun e4=> ?_⟩,fun e3=> ?_⟩
 ·have ajW:=acH.aB f44
  have z44:=f44.size
  simp only[Bool.not_eq_true',decide_eq_false_iff_not,zr]at e3
  simp only[decide_eq_true_eq]at e4
  have acI:=f43.trans f44.aB
  have G44:bU (fun k=>S k/\k<h.size) h44 g aD:=G0.fr acI fun k hk aI=>by omega
  refine kv G44 (Z43.no f44) Wu rfl _ fun z' h45 Z45 f45=>⟨z',_,_,rfl,ajW.aB f45,fun h46 f46 ajY=> ?_⟩
  have z45:=f45.size
  have acJ:=(acI.trans f45.aB).trans (f46.mono fun k _ hk=>by simp[In]at hk;omega)
  have z46:=f46.size
  have G46:bU (fun k=>S k/\k<h.size) h46 g aD:=G0.fr acJ fun k hk aI=>by omega
  have Y46:=((Y43.no f44).no f45).fr f46 fun k hk aI=>by simp[In]at aI;rcases hk with hk|hk<;>omega
  refine kv G46 Y46 Wv rfl _ fun y' h47 Y47 f47=>⟨y',_,_,rfl,ajY.aB f47,fun h48 f48 apc=> ?_⟩
  have z47:=f47.size
  have z48:=f48.size
  have hsu:cA aD u≠none:=fun hh=>all (i+1) (by rw[sq,hu];exact hh)
  have hsv:cA aD v≠none:=fun hh=>all (i+(n-m)+1) (by rw[sq,hv];exact hh)
  obtain⟨u',hu'⟩:=Option.ne_none_iff_exists'.1 hsu
  obtain⟨v',hv'⟩:=Option.ne_none_iff_exists'.1 hsv
  rw[hu']at Z45⊢
  rw[hv']at Y47⊢
  simp only[Option.getD_some]at Z45 Y47⊢
  rw[aG _ (by omega) (by omega)]
  refine⟨n3-1,by omega,i+1,u',v',by omega,by omega,by rw[sq,hu];exact hu',by rw[show i+1+(n-m)=i+(n-m)+1 by omega,sq,hv];exact hv',rfl,rfl,?_,?_,fun j hj=>by omega,?_,by omega⟩
  ·have a1:=(Z45.fr f46 fun k hk aI=>by simp[In]at aI;rcases hk with(hk|hk)|hk<;>omega).no f47
   exact(a1.fr f48 fun k hk aI=>by simp[In]at aI;rcases hk with(hk|hk)|hk<;>omega).mono fun k hk=>by rcases hk with hk|hk;exact hk;exact .inr (by omega)
  ·exact(Y47.fr f48 fun k hk aI=>by simp[In]at aI;rcases hk with(hk|hk)|hk<;>omega).mono fun k hk=>by rcases hk with hk|hk;exact hk;exact .inr (by omega)
  ·exact(acJ.trans f47.aB).trans (f48.mono fun k _ hk=>by simp[In]at hk;omega)
 ·simp only[Bool.not_eq_true',decide_eq_false_iff_not,zr]at e3
  simp only[decide_eq_false_iff_not]at e4
  exact FY R HN HS iR (f43.trans f44.aB) hu (.inr ⟨by omega,by omega⟩) ((Z43.no f44).mono fun k hk=>inc hk) (by omega) xL
 ·simp only[Bool.not_eq_false',decide_eq_true_eq,zr]at e3
  have him:i=m:=by
   by_cases hc:m<i
   ·have:=ajV m hc;omega
   ·omega
  exact FY R HN HS iR (f43.trans f44.aB) hu (.inl him) ((Z43.no f44).mono fun k hk=>inc hk) (by omega) xL
set_option maxHeartbeats 4000000 in
theorem IK{S S':Nat->Prop}{h:Heap}{g w:Sl}{aD:List (List Int)}{rs:List Int}{p:Int}(G:bU S h g aD)(H:aQ S' h w rs)(W:gj aD (rs,p))(K:Value->Heap->Prop)(HN:(∀m k,sE aD (rs,p) m k->2000<k)->∀h',Fr No h h'->K (.tuple #[VI 0,.agg #[w.v,VI p],VI 0]) h')(HS:∀m k s,sE aD (rs,p) m k->k<=2000->sq aD (rs,p) m=some s->∀t h',aQ (fun k=>S' k\/h.size<=k) h' t s.1->Fr No h h'->K (.tuple #[VI m,.agg #[t.v,VI s.2],VI ((k:Int)-m)]) h'):aE Tryz.prog 181 #[.agg #[g.v],.agg #[w.v,VI p]] h K:=by
 refine ajL g w p h K ?_
 unfold acE
 intro b1 b2 b3 h3 eD dK iR f3 cF
 have f3:=f3.aF
 have z3:=f3.size
 have G0:bU (fun k=>S k/\k<h.size) h g aD:=G.xd
 have H0:aQ (fun k=>S' k/\k<h.size) h w rs:=cM.lt H
 have Pm:∀{Y:Heap},Fr (fun k=>h.size<=k) h Y->Fr No h Y:=fun f=>f.mono fun k hk aI=>absurd aI (by omega)
 refine⟨fun b4 x1 x2 b5 x3 x4 h'=>x1=w/\x2=p/\x3=w/\x4=p/\h3.size<=b4/\h3.size<=b5/\Fr (fun k=>h.size<=k) h h',⟨fun b15 h31 ZK f31 Rg b16 VA ajO f32 ajP h33 f33 ajQ h34 f34 VC=> ?_,fun b17 h35 ZL f35 abC b18 h36 ajR f36 Ri h37 f37 NB h38 f38 ajS=> ?_⟩,?_⟩
 ·have:=f31.size
  exact⟨rfl,rfl,rfl,rfl,ZK,by omega,(((f3.aB.trans f31.aF.aB).trans f32.aF.aB).trans (f33.mono fun k _ hk=>by simp[In]at hk;omega)).trans (f34.mono fun k _ hk=>by simp[In]at hk;omega)⟩
 ·have:=f35.size
  exact⟨rfl,rfl,rfl,rfl,by omega,ZL,(((f3.aB.trans f35.aF.aB).trans f36.aF.aB).trans (f37.mono fun k _ hk=>by simp[In]at hk;omega)).trans (f38.mono fun k _ hk=>by simp[In]at hk;omega)⟩
 rintro b4 x1 x2 b5 x3 x4 gK ⟨rfl,rfl,rfl,rfl,GF,P9,f12⟩ tX
 have z12:=f12.size
 have l5:b5<gK.size:=tX.head.lt
 have l4:b4<gK.size:=tX.tail.head.lt
 have l3:b3<gK.size:=tX.tail.tail.head.lt
 have H12:aQ (fun k=>(S' k/\k<h.size)\/gK.size<=k) gK x3 rs:=(H0.fr f12 fun k hk aI=>by omega).mono fun k hk=> .inl hk
 refine⟨fun n met Ul x5 x6 x7 x8 h'=>∃(a:Nat)(s t:St),Ul=(a:Int)+1/\n+a=2000/\sq aD (rs,x4) a=some s/\sq aD (rs,x4) (2*a)=some t/\x8=s.2/\x6=t.2/\aQ (fun k=>(S' k/\k<h.size)\/gK.size<=k) h' x7 s.1/\aQ (fun k=>(S' k/\k<h.size)\/gK.size<=k) h' x5 t.1/\(met=true->1<=a/\s=t)/\(met=false->∀j,1<=j->j<=a->sq aD (rs,x4) j≠sq aD (rs,x4) (2*j))/\Fr (fun k=>h.size<=k) h h'/\gK.size<=h'.size,⟨2000,0,(rs,x4),(rs,x4),rfl,rfl,rfl,rfl,rfl,rfl,H12,H12,fun e=>(by cases e),fun _ j h1 h2=>by omega,f12,Nat.le_refl _⟩,?_⟩
 rintro n met Ul x5 x6 x7 x8 qR ⟨a,s,t,rfl,en,hs,ht,rfl,rfl,Q13,P13,hm1,hm0,f13,z13⟩ K1
 have Ws:gj aD s:=nC W hs
 have Wt:gj aD t:=nC W ht
 have bad:∀{X Y:Heap},(∀m k,sE aD (rs,x4) m k->2000<k)->Fr (fun k=>h.size<=k) h X->Fr (In [b3]) X Y->K (.tuple #[VI 0,.agg #[x3.v,VI x4],VI 0]) Y:=fun hN f1 f2=>HN hN _ (Pm (f1.trans (f2.mono fun k _ hk=>by simp[In]at hk;omega)))
 have Uy:((!met)=true->∀h':Heap,Fr (In [b3]) qR h'->K (.tuple #[VI 0,.agg #[x3.v,VI x4],VI 0]) h')->zp Tryz.prog met b3 qR b5 x5 t.2 b4 x7 s.2 x3 x4 b2 b1 g K:=Pl G H W HN HS ⟨eD,dK,iR,by omega,by omega⟩ f13 met hs Q13 (fun e=>by obtain⟨h1,h2⟩:=hm1 e;exact⟨h1,by rw[hs,ht,h2]⟩) K1
 rw[aG (2*((a:Int)+1)) (by omega) (by omega)]
 refine⟨fun e=>⟨fun e2=> ?_,fun e2=>Uy fun e3=>absurd (e2.symm.trans e3) (by decide)⟩,fun e=>Uy fun e2 h53 f53=> ?_⟩
 ·simp only[decide_eq_true_eq]at e
  have hmf:met=false:=by simpa using e2
  have G13:bU (fun k=>S k/\k<h.size) qR g aD:=G0.fr f13 fun k hk aI=>by omega
  refine kv G13 Q13 Ws rfl _ fun y LG Y14 f14=>⟨y,_,_,rfl,K1.aB f14,fun b10 Wp abB f16 IL=> ?_⟩
  have f16:=f16.aF
  have z14:=f14.size
  have z16:=f16.size
  have Tr:=(f13.trans f14.aB).trans f16.aB
  have G16:bU (fun k=>S k/\k<h.size) Wp g aD:=G0.fr Tr fun k hk aI=>by omega
  refine kv G16 ((P13.no f14).no f16) Wt rfl _ fun z h17 Z17 f17=>⟨z,_,_,rfl,IL.aB f17,fun e3=> ?_,fun e3=>⟨fun e4=> ?_,fun e4 b11 LI acK f19 zt=> ?_⟩⟩
  ·have hz:sq aD (rs,x4) (a+1)=none:=by
    rw[sq,hs]
    cases h5:cA aD s with
    |none=>exact h5
    |some s'=>rw[h5]at e3;cases e3
   unfold DP
   exact fun b11 h28 acK f28 LF=>bad (fun m k R=>absurd hz (R.all _)) (Tr.trans f17.aB) f28
  ·have hz:sq aD (rs,x4) (2*a+1)=none:=by
    rw[sq,ht]
    cases h5:cA aD t with
    |none=>exact h5
    |some s'=>rw[h5]at e4;cases e4
   unfold DP
   exact fun b11 h28 acK f28 LF=>bad (fun m k R=>absurd hz (R.all _)) (Tr.trans f17.aB) f28
  have f19:=f19.aF
  have z17:=f17.size
  have z19:=f19.size
  have ZN:=(Tr.trans f17.aB).trans f19.aB
  obtain⟨s',GQ⟩:∃s',cA aD s=some s':=by
   cases h5:cA aD s with
   |none=>rw[h5]at e3;cases e3
   |some s'=>exact⟨s',rfl⟩
  obtain⟨t',ZM⟩:∃t',cA aD t=some t':=by
   cases h5:cA aD t with
   |none=>rw[h5]at e4;cases e4
   |some s'=>exact⟨s',rfl⟩
  have W':=Wt.step ZM
  rw[GQ]at Y14 zt⊢
  rw[ZM]at Z17 zt⊢
  simp only[Option.getD_some]at Y14 Z17 zt⊢
  have G19:bU (fun k=>S k/\k<h.size) LI g aD:=G0.fr ZN fun k hk aI=>by omega
  refine kv G19 (Z17.no f19) W' rfl _ fun z2 h21 Z21 f21=>⟨z2,_,_,rfl,zt.aB f21,fun e5 b12 h24 aj4 f24 apl=> ?_,fun e5 b12 vm aj4 f26 tJ=> ?_⟩
  ·have hz:sq aD (rs,x4) (2*a+2)=none:=by
    rw[sq,sq,ht]
    show(cA aD t).bind _=none
    rw[ZM]
    cases h5:cA aD t' with
    |none=>exact h5
    |some s'=>rw[h5]at e5;cases e5
   exact bad (fun m k R=>absurd hz (R.all _)) (ZN.trans f21.aB) f24
  obtain⟨t2,ht2⟩:∃t2,cA aD t'=some t2:=by
   cases h5:cA aD t' with
   |none=>rw[h5]at e5;cases e5
   |some s'=>exact⟨s',rfl⟩
  rw[ht2]at Z21 tJ⊢
  simp only[Option.getD_some]at Z21 tJ⊢
  have z21:=f21.size
  have z26:=f26.size
  have off:∀k,((S' k/\k<h.size)\/gK.size<=k)->¬In [b5,b4] k:=fun k hk aI=>by
   simp only[In,List.mem_cons,List.not_mem_nil,or_false]at aI
   rcases hk with hk|hk<;>rcases aI with rfl|rfl<;>omega
  have Y26:aQ (fun k=>(S' k/\k<h.size)\/gK.size<=k) vm y s'.1:=(((((Y14.no f16).no f17).no f19).no f21).mono fun k hk=>by rcases hk with hk|hk;exact hk;exact .inr (by omega)).fr f26 off
  have Z26:aQ (fun k=>(S' k/\k<h.size)\/gK.size<=k) vm z2 t2.1:=(Z21.mono fun k hk=>by rcases hk with(hk|hk)|hk;exact hk;exact .inr (by omega);exact .inr (by omega)).fr f26 off
  have Hw:=(ZN.trans f21.aB).trans (f26.mono fun k _ hk=>by simp only[In,List.mem_cons,List.not_mem_nil,or_false]at hk;omega)
  refine xH Y26 Z26 s'.2 t2.2 _ fun Re f27=>⟨_,rfl,tJ.aB f27,?_⟩
  have z27:=f27.size
  have VG:sq aD (rs,x4) (a+1)=some s':=by rw[sq,hs];exact GQ
  have ht1:sq aD (rs,x4) (2*(a+1))=some t2:=by
   rw[show 2*(a+1)=2*a+1+1 by omega,sq,sq,ht]
   show((cA aD t).bind _)=_
   rw[ZM];exact ht2
  rw[aG _ (by omega) (by omega)]
  refine⟨n-1,by omega,a+1,s',t2,by omega,by omega,VG,ht1,rfl,rfl,Y26.no f27,Z26.no f27,fun e6=> ?_,fun e6 j h1 h2=> ?_,Hw.trans f27.aB,by omega⟩
  ·simp only[decide_eq_true_eq]at e6
   exact⟨by omega,Prod.ext e6.2 e6.1⟩
  ·simp only[decide_eq_false_iff_not]at e6
   by_cases hj:j<=a
   ·exact hm0 hmf j h1 hj
   ·have:j=a+1:=by omega
    subst this
    rw[VG,ht1]
    exact fun hh=>by
     have:=Option.some.inj hh
     rw[this]at e6
     exact e6 ⟨rfl,rfl⟩
 ·simp only[decide_eq_false_iff_not]at e
  have hmf:met=false:=by simpa using e2
  have ha:a=2000:=by omega
  refine bad (fun m k R=> ?_) f13 f53
  obtain⟨j,j1,j2,_,j4⟩:=R.meets
  by_cases hc:k<=2000
  ·exact absurd j4 (hm0 hmf j j1 (by omega))
  ·omega
def dU(g:List (List Int))(rs:List Int)(p:Int):Int×Int×Bool:=if eW g rs p then Fu g (rs,p)else(0,0,false)
theorem vQ{S S':Nat->Prop}{h:Heap}{g w:Sl}{aD:List (List Int)}{rs:List Int}(G:bU S h g aD)(H:aQ S' h w rs)(p:Int)(K:Value->Heap->Prop)(HK:∀h',Fr No h h'->K (.tuple #[VI (dU aD rs p).1,VI (dU aD rs p).2.1,VB (dU aD rs p).2.2]) h'):aE Tryz.prog 136 #[.agg #[g.v],.agg #[w.v,VI p]] h K:=by
 unfold dU at HK
 refine afn g w p h K fun b1 b2 h2 eD dK f2 bW=> ?_
 have f2:=f2.aF
 refine fh (G.no f2) (H.no f2) p _ fun h3 f3=>⟨_,rfl,bW.aB f3,fun e=> ?_,fun e=> ?_⟩
 ·simp only[Bool.not_eq_true']at e
  rw[e]at HK
  exact HK h3 (f2.trans f3)
 simp only[Bool.not_eq_false']at e
 rw[if_pos e]at HK
 have W:=cV e
 have gq:=f2.trans f3
 refine IK (G.no gq) (H.no gq) W _ (fun hN h4 f4=>⟨_,w,p,_,rfl,(bW.aB f3).aB f4,fun _ b3 h6 iR f6 jG=> ?_,fun e1=>by simp at e1⟩) (fun m k s R hk hs t h4 T4 f4=>⟨_,t,s.2,_,rfl,(bW.aB f3).aB f4,fun e1=> ?_,fun _ b3 h6 iR f6 jG=> ?_⟩)
 ·have:=HK h6 ((gq.trans f4).trans f6.aF)
  rw[Ka hN]at this
  exact this
 ·have:=R.lt
  simp only[decide_eq_true_eq]at e1
  omega
 ·have:=HK h6 ((gq.trans f4).trans f6.aF)
  rw[Fv R hk]at this
  exact this
theorem IM{S S':Nat->Prop}{h:Heap}{g w:Sl}{aD:List (List Int)}{rs:List Int}(G:bU S h g aD)(H:aQ S' h w rs)(p:Int)(K:Value->Heap->Prop)(HK:∀h',Fr No h h'->K (.tuple #[VI (dU aD rs p).1,VI (dU aD rs p).2.1,VB (dU aD rs p).2.2]) h'):aE Tryz.prog 157 #[.agg #[g.v],.agg #[w.v,VI p]] h K:=by
 unfold dU at HK
 refine v157 g w p h K fun b1 b2 h2 eD dK f2 bW=> ?_
 have f2:=f2.aF
 refine r8 (G.no f2) (H.no f2) p _ fun h3 f3=>⟨_,rfl,bW.aB f3,fun e=> ?_,fun e=> ?_⟩
 ·simp only[Bool.not_eq_true']at e
  rw[e]at HK
  exact HK h3 (f2.trans f3)
 simp only[Bool.not_eq_false']at e
 rw[if_pos e]at HK
 have gq:=f2.trans f3
 exact N4 (G.no gq) (H.no gq) (cV e) _ fun h4 f4=>⟨_,_,_,rfl,(bW.aB f3).aB f4,HK h4 (gq.trans f4)⟩
theorem kU{g:List (List Int)}{rs:List Int}(p:Int)(m:Nat):∀k,cR g rs p (m+k)=cR g rs (cR g rs p m) k
 |0=>rfl
 |k+1=>by rw[<-Nat.add_assoc,cR,kU p m k];rfl
theorem LW{g:List (List Int)}{rs:List Int}{p:Int}{i d i' d':Nat}(L:vn g rs p i d)(L':vn g rs p i' d'):i=i'/\d=d':=by
 have a1:=L.d1
 have a2:=L'.d1
 have e:i+d=i'+d':=by
  rcases Nat.lt_trichotomy (i+d) (i'+d')with h|h|h
  ·exact absurd L.eq (L'.inj i (i+d) (by omega) h)
  ·exact h
  ·exact absurd L'.eq (L.inj i' (i'+d') (by omega) h)
 have e2:i=i':=by
  rcases Nat.lt_trichotomy i i' with h|h|h
  ·exact absurd (L.eq.trans (by rw[e];exact L'.eq.symm)) (L.inj i i' h (by omega))
  ·exact h
  ·exact absurd (L'.eq.trans (by rw[<-e];exact L.eq.symm)) (L.inj i' i h (by omega))
 exact⟨e2,by omega⟩
noncomputable def Qg(g:List (List Int))(rs:List Int)(p:Int):List Int×Bool:=
 @dite _ (0<=cR g rs p g.length/\∃t:Nat×Nat,vn g rs p t.1 t.2) (Classical.propDecidable _) (fun h=>((List.range (Classical.choose h.2).2).map fun r=>cR g rs p ((Classical.choose h.2).1+r),true)) fun _=>([],false)
theorem zu{g:List (List Int)}{rs:List Int}{p:Int}(h:cR g rs p g.length<0):Qg g rs p=([],false):=by
 unfold Qg
 rw[dif_neg (fun h2=>by have:=h2.1;omega)]
theorem zw{g:List (List Int)}{rs:List Int}{p:Int}(h:0<=cR g rs p g.length){i d:Nat}(L:vn g rs p i d):Qg g rs p=((List.range d).map fun r=>cR g rs p (i+r),true):=by
 have h2:0<=cR g rs p g.length/\∃t:Nat×Nat,vn g rs p t.1 t.2:=⟨h,(i,d),L⟩
 unfold Qg
 rw[dif_pos h2]
 obtain⟨e1,e2⟩:=LW L (Classical.choose_spec h2.2)
 rw[<-e1,<-e2]
noncomputable def rm(g:List (List Int))(rs:List Int)(p:Int):List Int×Bool:=if eW g rs p then Qg g rs p else([],false)
theorem IP{S S':Nat->Prop}{h:Heap}{g w:Sl}{aD:List (List Int)}{rs:List Int}{a:Int}(G:bU S h g aD)(H:aQ S' h w rs)(W:gj aD (rs,a)){p:Int}(h0:0<=p)(h1:p<(aD.length:Int)){D:Nat}(D1:1<=D)(hD:cR aD rs p D=p)(hDm:D<=aD.length)(hp:0<=cR aD rs p aD.length)(K:Value->Heap->Prop)
 (HS:∀d t h',1<=d->cR aD rs p d=p->(∀j,1<=j->j<d->cR aD rs p j≠p)->aQ (fun _=>True) h' t ((List.range d).map fun r=>cR aD rs p r)->Fr No h h'->K t.v h'):aE Tryz.prog 231 #[.agg #[g.v],w.v,VI p] h K:=by
 refine ahm g w p h K fun b1 h2 eD f2 bW=> ?_
 have f2:=f2.aF
 have l1:b1<h2.size:=bW.head.lt
 have z2:=f2.size
 have Rb:=aO W.bE
 refine aP fx (fun k=>h2.size<=k) (fun _ h=>h) 1 (by omega) [VI p] rfl rfl fun t h4 n4 c4 o4 f4 m4 _=>⟨t,rfl,bW.aB f4,?_⟩
 have z4:=f4.size
 have jx:=f2.aA f4
 refine me (G.no jx) (H.no jx) W h0 h1 _ fun h5 f5=>⟨_,rfl,(bW.aB f4).aB f5,?_⟩
 have z5:=f5.size
 have pR:=jx.aA f5
 refine⟨fun n x q h'=>∃m,1<=m/\m<=D/\n=D-m/\q=cR aD rs p m/\(∀j,1<=j->j<m->cR aD rs p j≠p)/\bR h' (fun k=>h2.size<=k) x ((List.range m).map fun r=>cR aD rs p r)/\Fr No h h'/\h2.size<=h'.size,⟨D-1,1,Nat.le_refl _,D1,rfl,rfl,fun j a b=>by omega,by show Ow _ _ _ _ _ _;simpa[cR]using Ow.no o4 f5,pR,by omega⟩,?_⟩
 rintro n x q h6 ⟨m,m1,m2,rfl,rfl,mj,o6,f6,z6⟩ jG
 refine⟨fun e=> ?_,fun e=> ?_⟩
 ·have e:=bD e
  simp only[decide_eq_false_iff_not]at e
  have jF:m≠D:=fun h=>e (by rw[h];exact hD)
  refine aP fx (fun k=>h6.size<=k) (fun _ h=>h) 1 (by omega) [VI (cR aD rs p m)] rfl rfl fun u h7 n7 c7 o7 f7 m7 _=>⟨u,rfl,jG.aB f7,?_⟩
  have z7:=f7.size
  have r7:aQ u.own h7 u [cR aD rs p m]:=o7.rd
  have hxn:x.n=m:=by have:=aQ.len (Ow.eQ o6:aQ _ h6 x _);simpa using this
  have off:∀p,p∈[(b1,[g.v])]->¬(h2.size<=p.1):=fun p hp=>by
   simp only[List.mem_cons,List.not_mem_nil,or_false]at hp
   subst hp
   show¬(h2.size<=b1)
   omega
  refine bL fx (Ow.no o6 f7) (fun k hk=>by omega) r7 (fc _) (by have:=r7.len;simp at this;omega) fun y h8 n8 o8 f8 d8=>⟨y,rfl,(jG.aB f7).fr f8 (fun p hp hk=>off p hp (o6.aH hk).1),?_⟩
  have z8:=f8.size
  have E3:Fr No h h8:=(f6.aA f7).fresh f8 fun k hk=>by have:=(o6.aH hk).1;omega
  refine me (G.no E3) (H.no E3) W (xK W h0 h1 hp _) (kI W h0 h1 _).2 _ fun h9 f9=>⟨_,rfl,((jG.aB f7).fr f8 (fun p hp hk=>off p hp (o6.aH hk).1)).aB f9,?_⟩
  have z9:=f9.size
  rw[<-List.map_append]at o8
  refine⟨D-(m+1),by omega,m+1,by omega,by omega,rfl,rfl,fun j a b=> ?_,?_,E3.aA f9,by omega⟩
  ·by_cases hj:j<m
   ·exact mj j a hj
   ·obtain rfl:j=m:=by omega
    exact e
  ·rw[List.range_succ,List.map_append,List.map_cons,List.map_nil]
   exact Ow.no o8 f9
 ·have e:=aZ e
  simp only[decide_eq_true_eq]at e
  exact HS m x h6 m1 e mj ((Ow.eQ o6:aQ _ h6 x _).mono fun _ _=>trivial) f6
theorem Ac{S S':Nat->Prop}{h:Heap}{g w:Sl}{aD:List (List Int)}{rs:List Int}{p:Int}(G:bU S h g aD)(H:aQ S' h w rs)(W:gj aD (rs,p))(K:Value->Heap->Prop)(HK:∀t h',aQ (fun _=>True) h' t (Qg aD rs p).1->Fr No h h'->K (.tuple #[t.v,VB (Qg aD rs p).2]) h'):aE Tryz.prog 184 #[.agg #[g.v],.agg #[w.v,VI p]] h K:=by
 have h0:0<=p:=W.lo
 have h1:p<(aD.length:Int):=W.hi
 refine agl g w p h K fun b1 b2 h2 eD dK f2 bW=> ?_
 have f2:=f2.aF
 refine La (G.no f2) (H.no f2) W h0 h1 _ (fun hn h3 f3=>⟨aC,false,rfl,bW.aB f3,fun _=> ?_,fun e=>by simp at e⟩) fun hn t xs h3 hx r3 f3=>⟨t,true,rfl,bW.aB f3,fun e=>by simp at e,fun _=> ?_⟩
 ·rw[zu hn]at HK
  exact HK aC h3 ((Ow.nil _ _ _ _:bR h3 (fun _=>True) aC []).eQ) (f2.aA f3)
 refine⟨fun n q h'=>∃m,m<=aD.length/\n=aD.length-m/\q=cR aD rs p m/\(∀j,j<m->cR aD rs p j∉xs)/\Fr No h h'/\aQ (fun _=>True) h' t xs,⟨aD.length,0,by omega,rfl,rfl,fun j hj=>by omega,f2.aA f3,r3⟩,?_⟩
 rintro n q h4 ⟨m,hm,rfl,rfl,mj,f4,r4⟩ dS
 refine Rk r4 _ _ ⟨_,rfl,dS,fun e=> ?_,fun e=> ?_⟩
 ·have e:=bD e
  simp only[decide_eq_false_iff_not]at e
  have JC:m<aD.length:=by
   by_cases hx2:m<aD.length
   ·exact hx2
   ·obtain rfl:m=aD.length:=by omega
    exact absurd ((hx _).2 ⟨_,Nat.le_refl _,rfl⟩) e
  refine me (G.no f4) (H.no f4) W (xK W h0 h1 hn _) (kI W h0 h1 _).2 _ fun h6 f6=>⟨_,rfl,dS.aB f6,aD.length-(m+1),by omega,m+1,by omega,rfl,rfl,fun j hj=> ?_,f4.aA f6,r4.no f6⟩
  by_cases Hz:j<m
  ·exact mj j Hz
  ·obtain rfl:j=m:=by omega
   exact e
 ·have e:=aZ e
  simp only[decide_eq_true_eq]at e
  obtain⟨k0,hk0,ek0⟩:=(hx _).1 e
  obtain⟨i9,d9,c1,c2,c3⟩:=sf W h0 h1 hn
  have xL:cR aD rs p (m+d9)=cR aD rs p m:=by
   have e1:=mc ek0 d9
   have e2:=sd c3 (k0-i9) 1
   rw[show i9+(k0-i9)=k0 by omega,Nat.mul_one]at e2
   rw[<-e1,e2,ek0]
  refine IP (G.no f4) (H.no f4) W (xK W h0 h1 hn m) (kI W h0 h1 m).2 (D:=d9) c1 (by rw[<-kU];exact xL) (by omega) (by rw[<-kU];exact xK W h0 h1 hn _) _ fun d t2 h7 d1 dd dj r7 f7=>⟨t2,rfl,dS.aB f7,?_⟩
  have L:vn aD rs p m d:=⟨d1,by rw[kU];exact dd.symm,fun a b ab bm ee=>by
   by_cases ha:a<m
   ·refine mj a ha ((hx _).2 ⟨a+(b-a)*aD.length,?_,?_⟩)
    ·have:1*aD.length<=(b-a)*aD.length:=Nat.mul_le_mul_right _ (by omega)
     omega
    ·have:=sd (g:=aD) (rs:=rs) (p:=p) (i:=a) (d:=b-a) (by rw[show a+(b-a)=b by omega];exact ee) 0 aD.length
     simpa using this
   ·have e1:=mc ee (m+d-b)
    rw[show b+(m+d-b)=m+d by omega,kU p m d,dd]at e1
    refine dj (a+(m+d-b)-m) (by omega) (by omega) ?_
    rw[<-kU,show m+(a+(m+d-b)-m)=a+(m+d-b) by omega]
    exact e1⟩
  rw[zw hn L]at HK
  refine HK t2 h7 ?_ (f4.aA f7)
  simp only[kU]
  exact r7
theorem uI{S S':Nat->Prop}{h:Heap}{g w:Sl}{aD:List (List Int)}{rs:List Int}(G:bU S h g aD)(H:aQ S' h w rs)(p:Int)(K:Value->Heap->Prop)(HK:∀t h',aQ (fun _=>True) h' t (rm aD rs p).1->Fr No h h'->K (.tuple #[t.v,VB (rm aD rs p).2]) h'):aE Tryz.prog 159 #[.agg #[g.v],.agg #[w.v,VI p]] h K:=by
 refine v159 g w p h K fun b1 b2 h2 eD dK f2 bW=> ?_
 have f2:=f2.aF
 refine r8 (G.no f2) (H.no f2) p _ fun h3 f3=>⟨_,rfl,bW.aB f3,fun e=> ?_,fun e=> ?_⟩
 ·have er:rm aD rs p=([],false):=by unfold rm;rw[if_neg (by rw[bD e];simp)]
  rw[er]at HK
  exact HK aC h3 ((Ow.nil _ _ _ _:bR h3 (fun _=>True) aC []).eQ) (f2.aA f3)
 have e:=aZ e
 have W:=cV e
 have er:rm aD rs p=Qg aD rs p:=by unfold rm;rw[if_pos e]
 rw[er]at HK
 have gq:=f2.aA f3
 refine Cx (G.no gq) (H.no gq) W W.lo W.hi _ (fun hn h4 f4=>⟨aC,false,rfl,(bW.aB f3).aB f4,?_⟩) fun hn i d t h4 L _ r4 f4=>⟨t,true,rfl,(bW.aB f3).aB f4,?_⟩
 ·rw[zu hn]at HK
  exact HK aC h4 ((Ow.nil _ _ _ _:bR h4 (fun _=>True) aC []).eQ) (gq.aA f4)
 ·rw[zw hn L]at HK
  exact HK t h4 r4 (gq.aA f4)
theorem uJ{S S':Nat->Prop}{h:Heap}{g w:Sl}{aD:List (List Int)}{rs:List Int}(G:bU S h g aD)(H:aQ S' h w rs)(p:Int)(K:Value->Heap->Prop)(HK:∀t h',aQ (fun _=>True) h' t (rm aD rs p).1->Fr No h h'->K (.tuple #[t.v,VB (rm aD rs p).2]) h'):aE Tryz.prog 138 #[.agg #[g.v],.agg #[w.v,VI p]] h K:=by
 refine v138 g w p h K fun b1 b2 h2 eD dK f2 bW=> ?_
 have f2:=f2.aF
 refine fh (G.no f2) (H.no f2) p _ fun h3 f3=>⟨_,rfl,bW.aB f3,fun e=> ?_,fun e=> ?_⟩
 ·have er:rm aD rs p=([],false):=by unfold rm;rw[if_neg (by rw[bD e];simp)]
  rw[er]at HK
  exact HK aC h3 ((Ow.nil _ _ _ _:bR h3 (fun _=>True) aC []).eQ) (f2.aA f3)
 have e:=aZ e
 have W:=cV e
 have er:rm aD rs p=Qg aD rs p:=by unfold rm;rw[if_pos e]
 rw[er]at HK
 have gq:=f2.aA f3
 exact Ac (G.no gq) (H.no gq) W _ fun t h4 r4 f4=>⟨t,_,rfl,(bW.aB f3).aB f4,HK t h4 r4 (gq.aA f4)⟩
def ly(g:List (List Int))(s:Int):List Int:=(List.range g.length).map fun(i:Nat)=>if(i:Int)=s then 0 else((g.getD i []).length:Int)-1
def px(g:List (List Int))(s:Int):List Int×Bool:=if oO g s=true then(ly g s,true)else([],false)
theorem mF(g:List (List Int))(s:Int):(ly g s).length=g.length:=by simp[ly]
theorem uK{g:List (List Int)}{s:Int}{i:Nat}(h:i<g.length):(ly g s)[i]'(by rw[mF];exact h)=if(i:Int)=s then 0 else(g[i].length:Int)-1:=by
 unfold ly
 rw[List.getElem_map,List.getElem_range,aS h]
theorem FZ{g:List (List Int)}{s:Int}(h:oO g s=true):∀x,x∈ly g s->0<=x/\x<=5:=fun x hx=>by
 obtain⟨i,hi,rfl⟩:=List.getElem_of_mem hx
 have iG:i<g.length:=by rw[<-mF g s];exact hi
 unfold oO at h
 rw[Bool.and_eq_true,Bool.and_eq_true,aX]at h
 rw[uK iG]
 split
 ·exact⟨by omega,by omega⟩
 ·rename_i dZ
  have:=HA h.1.2.1 h.2 iG dZ (by omega)
  have:=(aT h.1.1 (List.getElem_mem iG)).1
  omega
theorem IQ{S:Nat->Prop}{h:Heap}{g:Sl}{aD:List (List Int)}(G:bU S h g aD)(hg:aM aD=true)(s:Int)(K:Value->Heap->Prop)(HK:∀t h',bR h' (Iv h.size h'.size) t (ly aD s)->Fr No h h'->K t.v h'):aE Tryz.prog 215 #[.agg #[g.v],VI s] h K:=by
 have gl:=aO hg
 have gn:=G.len
 refine ag1 g s h K fun b1 h1 eD f1 bY=> ?_
 have f1:=f1.aF
 have z1:=f1.size
 have fl:=mF aD s
 have l1:b1<h1.size:=bY.head.lt
 refine aP fx (fun k=>h1.size<=k) (fun _ h=>h) 0 (by omega) [] rfl rfl fun o h2 n2 c2 o2 f2 m2 _=>⟨o,rfl,bY.aB f2,?_⟩
 refine⟨fun n x i h'=>0<=i/\i+n=(aD.length:Int)/\bR h' (fun k=>h1.size<=k) x ((ly aD s).take i.toNat)/\Fr (fun k=>h1.size<=k) h1 h',⟨aD.length,by omega,by omega,by show Ow _ _ _ _ _ _;simpa using o2,f2.aB⟩,?_⟩
 rintro n x i h3 ⟨i0,i1,o3,f3⟩ cF
 have F3:Fr No h h3:=f1.fresh f3 fun k hk=>by omega
 have z3:=f3.size
 have G3:=G.no F3
 refine⟨fun e=> ?_,fun e=> ?_⟩
 ·have hi:=G3.lt e
  have wq:i.toNat<aD.length:=by omega
  obtain⟨si,c1,r1⟩:=G3.get i0 hi
  have rn:=r1.len
  have hk:=(aT hg (List.getElem_mem wq)).1
  have ex:=uK (s:=s) wq
  have et:=dX (ly aD s) i0 (by omega)
  have ei:((i.toNat:Nat):Int)=i:=by omega
  refine⟨G3.bB i0 hi,si,c1,fun e2=> ?_,fun e2=> ?_⟩
  ·simp only[decide_eq_true_eq]at e2
   refine mb (F:=fun k=>h1.size<=k) o3 (fun k hk=>by omega) cF (fun p hp=>by simp at hp;subst hp;show¬h1.size<=b1;omega) (by rw[List.length_take];omega) _ fun t h4 o4 f4 dS=> ?_
   rw[aG _ (by omega) (by omega)]
   refine⟨n-1,by omega,by omega,by omega,?_,f3.trans f4⟩
   rw[et,ex,ei,if_pos e2]
   exact o4
  ·simp only[decide_eq_false_iff_not]at e2
   rw[rn,aG _ (by omega) (by omega),aG _ (by omega) (by omega)]
   refine mb (F:=fun k=>h1.size<=k) o3 (fun k hk=>by omega) cF (fun p hp=>by simp at hp;subst hp;show¬h1.size<=b1;omega) (by rw[List.length_take];omega) _ fun t h4 o4 f4 dS=> ?_
   refine⟨n-1,by omega,by omega,by omega,?_,f3.trans f4⟩
   rw[et,ex,ei,if_neg e2]
   exact o4
 ·simp only[decide_eq_false_iff_not]at e
  rw[List.take_of_length_le (by omega)]at o3
  exact HK x h3 (o3.mono fun k CN hk=>⟨by omega,(Ow.aH o3 CN).2⟩) F3
theorem Po{S:Nat->Prop}{h:Heap}{g:Sl}{aD:List (List Int)}(G:bU S h g aD)(hg:aM aD=true)(s:Int)(K:Value->Heap->Prop)(HK:∀t h',bR h' (Iv h.size h'.size) t (ly aD s)->Fr No h h'->K t.v h'):aE Tryz.prog 188 #[.agg #[g.v],VI s] h K:=by
 have gl:=aO hg
 have gn:=G.len
 refine agt g s h K fun b1 h1 eD f1 bY=> ?_
 have f1:=f1.aF
 have z1:=f1.size
 have fl:=mF aD s
 have l1:b1<h1.size:=bY.head.lt
 refine⟨fun n x i h'=>0<=i/\i+n=(aD.length:Int)/\bR h' (fun k=>h1.size<=k) x ((ly aD s).take i.toNat)/\Fr (fun k=>h1.size<=k) h1 h',⟨aD.length,by omega,by omega,Ow.nil _ _ _ _,Fr.refl _ _⟩,?_⟩
 rintro n x i h3 ⟨i0,i1,o3,f3⟩ cF
 have F3:Fr No h h3:=f1.fresh f3 fun k hk=>by omega
 have z3:=f3.size
 have G3:=G.no F3
 refine⟨fun e=> ?_,fun e=> ?_⟩
 ·have hi:=G3.lt e
  have wq:i.toNat<aD.length:=by omega
  obtain⟨si,c1,r1⟩:=G3.get i0 hi
  have rn:=r1.len
  have hk:=(aT hg (List.getElem_mem wq)).1
  have ex:=uK (s:=s) wq
  have et:=dX (ly aD s) i0 (by omega)
  have ei:((i.toNat:Nat):Int)=i:=by omega
  refine⟨G3.bB i0 hi,si,c1,fun y h'=>y=(if i=s then 0 else(aD[i.toNat].length:Int)-1)/\h'=h3,⟨fun e2=> ?_,fun e2=> ?_⟩,?_⟩
  ·simp only[decide_eq_true_eq]at e2
   exact⟨by rw[if_pos e2],rfl⟩
  ·simp only[decide_eq_false_iff_not]at e2
   rw[rn,aG _ (by omega) (by omega),if_neg e2]
   exact⟨rfl,rfl⟩
  rintro y h4 ⟨rfl,rfl⟩ dS
  refine mb (F:=fun k=>h1.size<=k) o3 (fun k hk=>by omega) cF (fun p hp=>by simp at hp;subst hp;show¬h1.size<=b1;omega) (by rw[List.length_take];omega) _ fun t h5 o5 f5 gh=> ?_
  rw[aG _ (by omega) (by omega)]
  refine⟨n-1,by omega,by omega,by omega,?_,f3.trans f5⟩
  rw[et,ex,ei]
  exact o5
 ·simp only[decide_eq_false_iff_not]at e
  rw[List.take_of_length_le (by omega)]at o3
  exact HK x h3 (o3.mono fun k CN hk=>⟨by omega,(Ow.aH o3 CN).2⟩) F3
theorem IR{S:Nat->Prop}{h:Heap}{g:Sl}{aD:List (List Int)}(G:bU S h g aD)(s:Int)(K:Value->Heap->Prop)(HK:∀t h',bR h' (Iv h.size h'.size) t (px aD s).1->Fr No h h'->K (.tuple #[t.v,VB (px aD s).2]) h'):aE Tryz.prog 166 #[.agg #[g.v],VI s] h K:=by
 refine afU g s h K fun b1 h1 eD f1 bY=> ?_
 have f1:=f1.aF
 refine Lj (G.no f1) s _ fun h2 f2=>⟨_,rfl,bY.aB f2,fun e=> ?_,fun e=> ?_⟩
 ·unfold px at HK
  rw[if_neg (by simpa using e)]at HK
  exact HK aC h2 (Ow.nil _ _ _ _) (f1.aA f2)
 ·have e':oO aD s=true:=by simpa using e
  unfold px at HK
  rw[if_pos e']at HK
  have z:=(f1.aA f2).size
  refine IQ ((G.no f1).no f2) (by unfold oO at e';rw[Bool.and_eq_true,Bool.and_eq_true]at e';exact e'.1.1) s _ fun t h3 o3 f3=>⟨t,rfl,(bY.aB f2).aB f3,?_⟩
  exact HK t h3 (o3.P4 z (Nat.le_refl _)) ((f1.aA f2).aA f3)
theorem vR{S:Nat->Prop}{h:Heap}{g:Sl}{aD:List (List Int)}(G:bU S h g aD)(s:Int)(K:Value->Heap->Prop)(HK:∀t h',bR h' (Iv h.size h'.size) t (px aD s).1->Fr No h h'->K (.tuple #[t.v,VB (px aD s).2]) h'):aE Tryz.prog 140 #[.agg #[g.v],VI s] h K:=by
 refine aft g s h K fun b1 h1 eD f1 bY=> ?_
 have f1:=f1.aF
 refine NL (G.no f1) s _ fun h2 f2=>⟨_,rfl,bY.aB f2,fun e=> ?_,fun e=> ?_⟩
 ·unfold px at HK
  rw[if_neg (by simpa using e)]at HK
  exact HK aC h2 (Ow.nil _ _ _ _) (f1.aA f2)
 ·have e':oO aD s=true:=by simpa using e
  unfold px at HK
  rw[if_pos e']at HK
  have z:=(f1.aA f2).size
  refine Po ((G.no f1).no f2) (by unfold oO at e';rw[Bool.and_eq_true,Bool.and_eq_true]at e';exact e'.1.1) s _ fun t h3 o3 f3=>⟨t,rfl,(bY.aB f2).aB f3,?_⟩
  exact HK t h3 (o3.P4 z (Nat.le_refl _)) ((f1.aA f2).aA f3)
def iU(b:Nat):Nat->Nat
 |0=>1
 |n+1=>iU b n*b
def bA(b:Nat):Nat->Nat
 |0=>1
 |n+1=>bA b n+iU b (n+1)
theorem sQ(b:Nat):∀n,bA b (n+1)=b*bA b n+1
 |0=>by simp[bA,iU,Nat.add_comm]
 |n+1=>by
  have e:=sQ b n
  show bA b (n+1)+iU b (n+1)*b=b*(bA b n+iU b (n+1))+1
  rw[e,Nat.mul_add,Nat.mul_comm _ b]
  omega
theorem fS:∀b,b<4->∀d,d<7->iU b d<=bA b d/\bA b d<=1093:=by decide
def fJ(b:Nat)(x:Nat):Nat:=if x=0\/b=0 then 0 else fJ b ((x-1)/b)+1
termination_by x
decreasing_by
 rename_i h
 have:=Nat.div_le_self (x-1) b
 omega
theorem mG(b:Nat):fJ b 0=0:=by rw[fJ];simp
theorem IU{b x:Nat}(hb:b≠0)(hx:x≠0):fJ b x=fJ b ((x-1)/b)+1:=by
 rw[fJ,if_neg (by omega)]
theorem Pp{b x r:Nat}(h1:1<=r)(h2:r<=b):fJ b (x*b+r)=fJ b x+1:=by
 rw[IU (by omega) (by omega)]
 congr 2
 rw[show x*b+r-1=(r-1)+x*b by omega,Nat.add_mul_div_right _ _ (by omega),Nat.div_eq_of_lt (by omega),Nat.zero_add]
theorem Pq{b:Nat}(hb:b≠0):∀{d x:Nat},x<bA b d->fJ b x<=d
 |0,x,h=>by
  have:x=0:=by rw[bA]at h;omega
  subst this
  rw[mG];exact Nat.le_refl _
 |d+1,x,h=>by
  by_cases e:x=0
  ·subst e;rw[mG];exact Nat.zero_le _
  ·rw[IU hb e]
   have:(x-1)/b<bA b d:=by
    rw[Nat.div_lt_iff_lt_mul (by omega),Nat.mul_comm]
    rw[sQ]at h
    omega
   have:=Pq hb this
   omega
def LX(f:Nat->Nat)(b:Int):Nat->List Int->Nat
 |_,[]=>0
 |i,r::rs=>f i*(b-r).toNat+LX f b (i+1) rs
theorem F0(f:Nat->Nat)(b v:Int):∀(rs:List Int)(i x:Nat)(h:x<rs.length),LX f b i (rs.set x v)+f (i+x)*(b-rs[x]).toNat=LX f b i rs+f (i+x)*(b-v).toNat
 |r::rs,i,0,h=>by simp only[List.set_cons_zero,LX,List.getElem_cons_zero,Nat.add_zero];omega
 |r::rs,i,x+1,h=>by
  have ih:=F0 f b v rs (i+1) x (by simpa using h)
  rw[show i+1+x=i+(x+1) by omega]at ih
  simp only[List.set_cons_succ,LX,List.getElem_cons_succ]
  omega
def wE(b d:Nat)(a:Int):Nat:=if a<0 then 0 else(b+2)^(d+2)-(b+2)^(d+1-fJ b a.toNat)
def Ga(b d:Nat)(rs:List Int)(a:Int):Nat:=LX (fun x=>(b+2)^(d+1-fJ b x)) b 0 rs+wE b d a
def vS(b:Nat)(a r:Int):Int:=if 0<r then a*b+r else if a=0 then-1 else(a-1)/b
def Pr(b first:Nat):Nat->List Int->Int->List Int×Int
 |0,rs,a=>(rs,a)
 |n+1,rs,a=>if 0<=a/\a<first then
  Pr b first n (rs.set a.toNat ((rs.getD a.toNat 0+1)%(b+1))) (vS b a ((rs.getD a.toNat 0+1)%(b+1)))
  else(rs,a)
theorem Ku(b first:Nat)(n:Nat)(rs:List Int)(a:Int)(h:¬(0<=a/\a<first)):Pr b first n rs a=(rs,a):=by
 cases n with
 |zero=>rfl
 |succ n=>rw[Pr,if_neg h]
theorem Ps{b d:Nat}(hb:0<b){rs:List Int}(hl:rs.length=bA b (d-1))(hd:0<d)(hr:∀r,r∈rs->0<=r/\r<=b){a:Int}(h0:0<=a)(h1:a<bA b (d-1)){r:Int}(e:r=(rs.getD a.toNat 0+1)%(b+1)):
 0<=r/\r<=b/\(∀x,x∈rs.set a.toNat r->0<=x/\x<=b)/\Ga b d (rs.set a.toNat r) (vS b a r)<Ga b d rs a/\fJ b a.toNat<d/\
 (0<r->fJ b (a*b+r).toNat=fJ b a.toNat+1/\0<a*b+r/\a*b+r<=bA b d)/\(¬0<r->a≠0->fJ b a.toNat=fJ b ((a-1)/b).toNat+1/\0<=(a-1)/b/\(a-1)/b<a):=by
 have ha:a.toNat<rs.length:=by omega
 have eg:rs.getD a.toNat 0=rs[a.toNat]:=by rw[List.getD_eq_getElem?_getD,List.getElem?_eq_getElem ha,Option.getD_some]
 have hq:=hr _ (List.getElem_mem ha)
 rw[eg]at e
 have r0:0<=r:=by rw[e];exact Int.emod_nonneg _ (by omega)
 have r1:r<b+1:=by rw[e];exact Int.emod_lt_of_pos _ (by omega)
 have hm:∀x,x∈rs.set a.toNat r->0<=x/\x<=b:=fun x hx=>by
  rcases List.mem_or_eq_of_mem_set hx with hx|rfl
  ·exact hr x hx
  ·exact⟨r0,by omega⟩
 have lv:fJ b a.toNat<d:=by
  have:=Pq (b:=b) (by omega) (d:=d-1) (x:=a.toNat) (by omega)
  omega
 have ps:=F0 (fun x=>(b+2)^(d+1-fJ b x)) b r rs 0 a.toNat ha
 simp only[Nat.zero_add]at ps
 obtain⟨A,hA⟩:∃A:Nat,a=A:=⟨a.toNat,by omega⟩
 obtain⟨R,hR⟩:∃R:Nat,r=R:=⟨r.toNat,by omega⟩
 have VM:0<r->fJ b (a*b+r).toNat=fJ b a.toNat+1/\0<a*b+r/\a*b+r<=bA b d:=fun h=>by
  have e1:a*b+r=((A*b+R:Nat):Int):=by rw[hA,hR];simp
  rw[e1]
  refine⟨?_,by omega,?_⟩
  ·rw[Int.toNat_natCast,Pp (by omega) (by omega),hA,Int.toNat_natCast]
  ·have e2:bA b d=b*bA b (d-1)+1:=by rw[<-sQ,Nat.sub_add_cancel hd]
   have:A+1<=bA b (d-1):=by omega
   have:=Nat.mul_le_mul_left b this
   have e3:b*(A+1)=A*b+b:=by rw[Nat.mul_add,Nat.mul_one,Nat.mul_comm]
   omega
 have hup:¬0<r->a≠0->fJ b a.toNat=fJ b ((a-1)/b).toNat+1/\0<=(a-1)/b/\(a-1)/b<a:=fun h dZ=>by
  have e1:(a-1)/b=(((A-1)/b:Nat):Int):=by rw[hA,show(A:Int)-1=((A-1:Nat):Int) by omega];exact(Int.natCast_ediv _ _).symm
  rw[e1,Int.toNat_natCast,show a.toNat=A by omega]
  have:=Nat.div_le_self (A-1) b
  have hl:=IU (b:=b) (x:=A) (by omega) (by omega)
  generalize (A-1)/b=q at*
  exact⟨hl,by omega,by omega⟩
 refine⟨r0,by omega,hm,?_,lv,VM,hup⟩
 have W:∀k,k<=d+1->(b+2)^(k+1)=(b+2)^k*b+2*(b+2)^k:=fun k _=>by rw[Nat.pow_succ,Nat.mul_add,Nat.mul_comm 2]
 have P:∀k,0<(b+2)^k:=fun k=>Nat.pow_pos (by omega)
 have M:∀k,k<=d+2->(b+2)^k<=(b+2)^(d+2):=fun k hk=>Nat.pow_le_pow_right (by omega) hk
 unfold Ga
 by_cases h:0<r
 ·obtain⟨g1,g2,g3⟩:=VM h
  have er:r=rs[a.toNat]+1:=by
   by_cases hh:rs[a.toNat]=b
   ·rw[hh,Int.emod_self]at e;omega
   ·rw[e,Int.emod_eq_of_lt (by omega) (by omega)]
  have e4:(b-rs[a.toNat]:Int).toNat=(b-r:Int).toNat+1:=by omega
  rw[e4,Nat.mul_add,Nat.mul_one]at ps
  have:wE b d (vS b a r)=(b+2)^(d+2)-(b+2)^(d+1-(fJ b a.toNat+1)):=by
   unfold vS wE
   rw[if_pos h,if_neg (by omega),g1]
  have w0:wE b d a=(b+2)^(d+2)-(b+2)^(d+1-fJ b a.toNat):=by unfold wE;rw[if_neg (by omega)]
  have m1:=M (d+1-fJ b a.toNat) (by omega)
  have m2:=M (d+1-(fJ b a.toNat+1)) (by omega)
  have p1:=P (d+1-(fJ b a.toNat+1))
  rw[this,w0]
  omega
 ·have er:rs[a.toNat]=b:=by
   by_cases hh:rs[a.toNat]=b
   ·exact hh
   ·rw[Int.emod_eq_of_lt (by omega) (by omega)]at e;omega
  have e4:(b-rs[a.toNat]:Int).toNat=0:=by omega
  have e5:(b-r:Int).toNat=b:=by omega
  rw[e4,e5,Nat.mul_zero]at ps
  have w0:wE b d a=(b+2)^(d+2)-(b+2)^(d+1-fJ b a.toNat):=by unfold wE;rw[if_neg (by omega)]
  have q1:=P (d+1-fJ b a.toNat)
  by_cases ha0:a=0
  ·have:wE b d (vS b a r)=0:=by unfold vS wE;rw[if_neg h,if_pos ha0,if_pos (by omega)]
   rw[this,w0]
   have l0:fJ b a.toNat=0:=by rw[ha0];exact mG b
   have w1:(b+2)^(d+2)=_:=W (d+1) (by omega)
   rw[l0]at ps q1⊢
   rw[Nat.sub_zero]at ps q1⊢
   omega
  ·obtain⟨g1,g2,g3⟩:=hup h ha0
   have:wE b d (vS b a r)=(b+2)^(d+2)-(b+2)^(d+1-fJ b a.toNat+1):=by
    unfold vS wE
    rw[if_neg h,if_neg ha0,if_neg (by omega),show d+1-fJ b ((a-1)/b).toNat=d+1-fJ b a.toNat+1 by omega]
   rw[this,w0]
   have w1:=W (d+1-fJ b a.toNat) (by omega)
   have m1:=M (d+1-fJ b a.toNat+1) (by omega)
   omega
def Uz(b d:Nat)(rs:List Int):List Int×Int:=Pr b (bA b (d-1)) (Ga b d rs 0) rs 0
def nD(b d:Nat):Nat->List Int->List Int×List Int
 |0,rs=>(rs,[])
 |n+1,rs=>((Uz b d (nD b d n rs).1).1,(nD b d n rs).2++[if(Uz b d (nD b d n rs).1).2= -1 then 0 else 1])
def qk(b d k n:Int):Bool:=decide (2<=b/\b<=3/\1<=d/\d<=6)&&decide ((bA b.toNat d.toNat:Int)<=130)&&decide (0<=k/\k<=b/\0<=n/\n<=200)
def zx(b d k n:Int):Int×Bool:=if qk b d k n=true then((nD b.toNat d.toNat n.toNat (List.replicate (bA b.toNat (d.toNat-1)) k)).2.sum,true)else(0,false)
def Dj(a b:Sl):Prop:=∀k,a.own k->¬b.own k
structure k9(lo:Nat)(h:Heap)(b1:Nat)(f3 f4 f5 f6:Sl)(rs es ts vs:List Int):Prop where
 r:bR h (fun k=>lo<=k) f3 rs
 e:bR h (fun k=>lo<=k) f4 es
 t:bR h (fun k=>lo<=k) f5 ts
 v:bR h (fun k=>lo<=k) f6 vs
 re:Dj f3 f4
 rt:Dj f3 f5
 rv:Dj f3 f6
 et:Dj f4 f5
 ev:Dj f4 f6
 tv:Dj f5 f6
 nr:¬f3.own b1
 ne:¬f4.own b1
 nt:¬f5.own b1
 nv:¬f6.own b1
 lb:lo<=b1
 hb:b1<h.size
theorem Dj.symm{a b:Sl}(H:Dj a b):Dj b a:=fun k hb ha=>H k ha hb
theorem k9.Pt{lo:Nat}{h:Heap}{b1:Nat}{f3 f4 f5 f6:Sl}{rs es ts vs:List Int}(S:k9 lo h b1 f3 f4 f5 f6 rs es ts vs):k9 lo h b1 f3 f5 f4 f6 rs ts es vs:=⟨S.r,S.t,S.e,S.v,S.rt,S.re,S.rv,S.et.symm,S.tv,S.ev,S.nr,S.nt,S.ne,S.nv,S.lb,S.hb⟩
theorem k9.iL{lo:Nat}{h:Heap}{b1:Nat}{f3 f4 f5 f6:Sl}{rs es ts vs:List Int}(S:k9 lo h b1 f3 f4 f5 f6 rs es ts vs):k9 lo h b1 f4 f3 f5 f6 es rs ts vs:=⟨S.e,S.r,S.t,S.v,S.re.symm,S.et,S.ev,S.rt,S.rv,S.tv,S.ne,S.nr,S.nt,S.nv,S.lb,S.hb⟩
theorem k9.py{lo:Nat}{h:Heap}{b1:Nat}{f3 f4 f5 f6:Sl}{rs es ts vs:List Int}(S:k9 lo h b1 f3 f4 f5 f6 rs es ts vs):k9 lo h b1 f6 f4 f5 f3 vs es ts rs:=⟨S.v,S.e,S.t,S.r,S.ev.symm,S.tv.symm,S.rv.symm,S.et,S.re.symm,S.rt.symm,S.nv,S.ne,S.nt,S.nr,S.lb,S.hb⟩
theorem k9.no{lo:Nat}{h h':Heap}{b1:Nat}{f3 f4 f5 f6:Sl}{rs es ts vs:List Int}(S:k9 lo h b1 f3 f4 f5 f6 rs es ts vs)(f:Fr No h h'):k9 lo h' b1 f3 f4 f5 f6 rs es ts vs:=⟨Ow.no S.r f,Ow.no S.e f,Ow.no S.t f,Ow.no S.v f,S.re,S.rt,S.rv,S.et,S.ev,S.tv,S.nr,S.ne,S.nt,S.nv,S.lb,Nat.lt_of_lt_of_le S.hb f.size⟩
theorem k9.box{lo:Nat}{h h':Heap}{b1:Nat}{f3 f4 f5 f6:Sl}{rs es ts vs:List Int}(S:k9 lo h b1 f3 f4 f5 f6 rs es ts vs)(f:Fr (fun k=>k=b1) h h'):k9 lo h' b1 f3 f4 f5 f6 rs es ts vs:=⟨Ow.fr S.r f fun k hk e=>S.nr (e▸hk),Ow.fr S.e f fun k hk e=>S.ne (e▸hk),Ow.fr S.t f fun k hk e=>S.nt (e▸hk),Ow.fr S.v f fun k hk e=>S.nv (e▸hk),S.re,S.rt,S.rv,S.et,S.ev,S.tv,S.nr,S.ne,S.nt,S.nv,S.lb,Nat.lt_of_lt_of_le S.hb f.size⟩
theorem k9.LY{lo:Nat}{h h':Heap}{b1:Nat}{f3 f4 f5 f6:Sl}{rs es ts vs:List Int}(S:k9 lo h b1 f3 f4 f5 f6 rs es ts vs){B:List Nat}(f:Fr (In B) h h')(hB:∀b,b∈B->b=b1):k9 lo h' b1 f3 f4 f5 f6 rs es ts vs:=S.box (f.mono fun k _ hk=>hB k hk)
theorem k9.Gb{lo:Nat}{h:Heap}{b1:Nat}{f3 f4 f5 f6:Sl}{rs es ts vs:List Int}(S:k9 lo h b1 f3 f4 f5 f6 rs es ts vs){i:Int}(h0:0<=i)(h1:i<(rs.length:Int))(v:Int):
 dQ f3 i/\aR h (f3.at i 1)=some (VI (rs.getD i.toNat 0))/\dT h (f3.at i 1)/\k9 lo (Mx.cK h (f3.at i 1) (VI v)) b1 f3 f4 f5 f6 (rs.set i.toNat v) es ts vs/\Fr f3.own h (Mx.cK h (f3.at i 1) (VI v)):=by
 have hn:f3.n=rs.length:=by have:=S.r.rd.len;simpa using this.symm
 obtain⟨w1,w2,w3⟩:=S.r.eX h0 (by omega) (VI v)
 have R:aQ f3.own h f3 rs:=S.r.rd
 have eg:rs.getD i.toNat 0=rs[i.toNat]'(by omega):=by rw[List.getD_eq_getElem?_getD,List.getElem?_eq_getElem (by omega),Option.getD_some]
 refine⟨R.bB h0 h1,by rw[eg];exact R.get h0 h1,w1,⟨?_,S.e.fr w3 fun k hk aI=>S.re k aI hk,S.t.fr w3 fun k hk aI=>S.rt k aI hk,S.v.fr w3 fun k hk aI=>S.rv k aI hk,S.re,S.rt,S.rv,S.et,S.ev,S.tv,S.nr,S.ne,S.nt,S.nv,S.lb,Nat.lt_of_lt_of_le S.hb w3.size⟩,w3⟩
 show Ow _ _ _ _ _ _
 rw[<-List.map_set]at w2
 exact w2
theorem k9.DR{lo:Nat}{h:Heap}{b1:Nat}{f3 f4 f5 f6:Sl}{rs es ts vs:List Int}(S:k9 lo h b1 f3 f4 f5 f6 rs es ts vs)(wj:lo<=h.size){T:Nat->Prop}{x:Sl}{v:Int}(X:aQ T h x [v])(hn:rs.length<=1000){K:Value->Heap->Prop}
 (HK:∀t h',k9 lo h' b1 t f4 f5 f6 (rs++[v]) es ts vs->Fr f3.own h h'->(∀k,t.own k->f3.own k\/h.size<=k)->K t.v h'):jQ Tryz.prog (bK qQ qQ qQ f3.v x.v) h K:=by
 have h3:f3.n=rs.length:=by have:=S.r.rd.len;simpa using this.symm
 have hx:x.n=1:=by have:=X.len;simpa using this
 refine bL fx S.r (fun k hk=>by omega) X (fc _) (by omega) fun t h' n' o' f' w'=>HK t h' ?_ f' w'
 have dj:∀{s:Sl}{l:List Int},bR h (fun k=>lo<=k) s l->Dj f3 s->Dj t s:=fun O D k hk hs=>by
  rcases w' k hk with hk|hk
  ·exact D k hk hs
  ·have:=(O.aH hs).2;omega
 refine⟨by show Ow _ _ _ _ _ _;rw[List.map_append];exact o',S.e.fr f' fun k hk aI=>S.re k aI hk,S.t.fr f' fun k hk aI=>S.rt k aI hk,S.v.fr f' fun k hk aI=>S.rv k aI hk,dj S.e S.re,dj S.t S.rt,dj S.v S.rv,S.et,S.ev,S.tv,fun hk=> ?_,S.ne,S.nt,S.nv,S.lb,Nat.lt_of_lt_of_le S.hb f'.size⟩
 rcases w' _ hk with hk|hk
 ·exact S.nr hk
 ·have:=S.hb;omega
theorem fK{h:Heap}(v:Int){K:Value->Heap->Prop}(HK:∀x h',bR h' (fun k=>h.size<=k) x [v]->Fr No h h'->K x.v h'):jQ Tryz.prog (Instr.buildSlice qQ 1 #[(0,VI v)]) h K:=
 aP fx (fun k=>h.size<=k) (fun _ h=>h) 1 (by omega) [VI v] rfl rfl fun x h' n c o f m _=>HK x h' (by show Ow _ _ _ _ _ _;simpa using o) f
theorem Gc{b d:Nat}(hb:0<b)(hd:0<d):∀(n:Nat){rs:List Int}{a:Int},rs.length=bA b (d-1)->(∀r,r∈rs->0<=r/\r<=(b:Int))->(Pr b (bA b (d-1)) n rs a).1.length=bA b (d-1)/\∀r,r∈(Pr b (bA b (d-1)) n rs a).1->0<=r/\r<=(b:Int)
 |0,rs,a,hl,hr=>⟨hl,hr⟩
 |n+1,rs,a,hl,hr=>by
  rw[Pr]
  by_cases h:0<=a/\a<(bA b (d-1):Nat)
  ·rw[if_pos h]
   obtain⟨_,_,s3,_⟩:=Ps hb hl hd hr h.1 h.2 rfl
   exact Gc hb hd n (by rw[List.length_set];exact hl) s3
  ·rw[if_neg h]
   exact⟨hl,hr⟩
theorem sR(b:Nat):∀d,1<=bA b d
 |0=>Nat.le_refl _
 |d+1=>by rw[bA];have:=sR b d;omega
theorem uL{b d:Nat}(hb:b<4)(hd:d<7){h:Heap}(K:Value->Heap->Prop)(HK:K (VI (bA b d)) h):aE Tryz.prog 268 #[VI b,VI d] h K:=by
 refine ah4 b d h K ⟨fun n all lev i h'=>∃j:Nat,i=j/\n+j=d/\all=(bA b j:Nat)/\lev=(iU b j:Nat)/\h'=h,⟨d,0,rfl,by omega,rfl,rfl,rfl⟩,?_⟩
 rintro n all lev i h' ⟨j,rfl,hn,rfl,rfl,rfl⟩ hL
 have hs:=fS b hb j (by omega)
 refine⟨fun e=> ?_,fun e=> ?_⟩
 ·simp only[decide_eq_true_eq]at e
  have hs2:=fS b hb (j+1) (by omega)
  have e1:((iU b j:Nat):Int)*(b:Int)=((iU b (j+1):Nat):Int):=by rw[iU];simp
  have e2:bA b (j+1)=bA b j+iU b (j+1):=rfl
  rw[e1,aG ((iU b (j+1):Nat):Int) (by omega) (by omega),aG _ (by omega) (by omega),aG _ (by omega) (by omega)]
  exact⟨n-1,by omega,j+1,by omega,by omega,by omega,rfl,rfl⟩
 ·simp only[decide_eq_false_iff_not]at e
  have:j=d:=by omega
  subst this
  exact HK
theorem Ad{h:Heap}(b d:Int)(K:Value->Heap->Prop)(HK:K (VB (decide (2<=b/\b<=3/\1<=d/\d<=6)&&decide ((bA b.toNat d.toNat:Int)<=130))) h):aE Tryz.prog 266 #[VI b,VI d] h K:=by
 refine ah0 b d h K (eJ _ _ _ h _ ⟨_,rfl,.nil,fun e=> ?_,fun e=> ?_⟩)
 ·have e:=aX.1 e
  refine eJ _ _ _ h _ ⟨_,rfl,.nil,fun e2=> ?_,fun e2=> ?_⟩
  ·have e2:=aX.1 e2
   obtain⟨B,rfl⟩:∃B:Nat,b=B:=⟨b.toNat,by omega⟩
   obtain⟨D,rfl⟩:∃D:Nat,d=D:=⟨d.toNat,by omega⟩
   refine uL (by omega) (by omega) _ ⟨_,rfl,.nil,?_⟩
   rw[decide_eq_true (show 2<=(B:Int)/\(B:Int)<=3/\1<=(D:Int)/\(D:Int)<=6 by omega),Bool.true_and]at HK
   exact HK
  ·rw[decide_eq_false (show¬(2<=b/\b<=3/\1<=d/\d<=6)from fun h=>by simp at e2;omega),Bool.false_and]at HK
   exact HK
 ·rw[decide_eq_false (show¬(2<=b/\b<=3/\1<=d/\d<=6)from fun h=>by simp at e;omega),Bool.false_and]at HK
  exact HK
theorem k9.toT{lo:Nat}{h:Heap}{b1:Nat}{f3 f4 f5 f6:Sl}{rs es ts vs:List Int}(S:k9 lo h b1 f3 f4 f5 f6 rs es ts vs):k9 lo h b1 f5 f3 f4 f6 ts rs es vs:=S.Pt.iL
theorem k9.ofT{lo:Nat}{h:Heap}{b1:Nat}{f3 f4 f5 f6:Sl}{rs es ts vs:List Int}(S:k9 lo h b1 f5 f3 f4 f6 ts rs es vs):k9 lo h b1 f3 f4 f5 f6 rs es ts vs:=S.iL.Pt
theorem gH{h h':Heap}{b1:Nat}{cs:List Value}{T:Nat->Prop}(hL:Vars h [(b1,cs)])(f:Fr T h h')(hT:¬T b1):Vars h' [(b1,cs)]:=hL.fr f fun p hp=>by
 simp only[List.mem_singleton]at hp
 subst hp
 exact hT
def UA(b d lo:Nat)(h2:Heap)(b1:Nat)(f3 f4 f5 f6:Sl)(rs es ts:List Int)(sp:Prop)(n:Nat)(a lv:Int)(h':Heap):Prop:=
 ∃sF pI,Ga b d sF a<=n/\Pr b (bA b (d-1)) n sF a=Uz b d rs/\sF.length=bA b (d-1)/\(∀r,r∈sF->0<=r/\r<=(b:Int))/\pI.length=d+1/\k9 lo h' b1 f3 f4 f5 f6 sF es ts pI/\Fr (fun k=>lo<=k) h2 h'/\ -1<=a/\a<=(bA b d:Int)/\(0<=a->lv=(fJ b a.toNat:Int))/\(sp->a<0->lv<0)
theorem Pu{b first n:Nat}{rs:List Int}{a:Int}{R:List Int×Int}{ph:Nat}(hn:ph<n)(h0:0<=a)(h1:a<(first:Int))(H:Pr b first n rs a=R):Pr b first (n-1) (rs.set a.toNat ((rs.getD a.toNat 0+1)%((b:Int)+1))) (vS b a ((rs.getD a.toNat 0+1)%((b:Int)+1)))=R:=by
 obtain⟨m,rfl⟩:∃m,n=m+1:=⟨n-1,by omega⟩
 rw[Pr,if_pos ⟨h0,h1⟩]at H
 exact H
def Ae(b d:Nat)(rs:List Int):Int:=if(Uz b d rs).2= -1 then 0 else 1
set_option maxHeartbeats 4000000 in
theorem Tt{b d:Nat}(hb:2<=b/\b<=3)(hd:1<=d/\d<=6){lo:Nat}{h:Heap}(wj:lo<=h.size){b1:Nat}{f3 f4 f5 f6:Sl}{rs es ts vs:List Int}(hL:Vars h [(b1,[VI b,VI d,f3.v,f4.v,f5.v,f6.v])])(S:k9 lo h b1 f3 f4 f5 f6 rs es ts vs)(hl:rs.length=bA b (d-1))(hr:∀r,r∈rs->0<=r/\r<=(b:Int))(hv:vs.length=d+1)(he:es.length<=300)(ht:ts.length<=300)(K:Value->Heap->Prop)
 (HK:∀h' t u ws pI,Vars h' [(b1,[VI b,VI d,f3.v,t.v,u.v,f6.v])]->k9 lo h' b1 f3 t u f6 (Uz b d rs).1 (es++[Ae b d rs]) ws pI->ws.length=ts.length+1->pI.length=d+1->Fr (fun k=>lo<=k) h h'->K (.tuple #[]) h'):aE Tryz.prog 269 #[VP b1 0] h K:=by
 have hs:=fS b (by omega) d (by omega)
 have VG:=fS b (by omega) (d-1) (by omega)
 refine ah5 b1 b d f3 f4 f5 f6 h K hL ?_
 unfold abm pk
 rw[show aL ((d:Int)-1)=((d-1:Nat):Int)from by rw[aG _ (by omega) (by omega)];omega]
 refine uL (by omega) (by omega) _ ⟨_,rfl,hL,?_⟩
 obtain⟨a1,a2,a3,S1,f1⟩:=S.py.Gb (i:=0) (by omega) (by omega) (aL (vs.getD (0:Int).toNat 0+1))
 refine⟨a1,_,a2,a1,a3,gH hL f1 S.nv,fun h2 e2 bW=> ?_⟩
 subst e2
 have S1:=S1.py
 have F1:Fr (fun k=>lo<=k) h _:=f1.mono fun k _ hk=>(S.v.aH hk).1
 refine⟨fun n a lv st h'=>UA b d lo _ b1 f3 f4 f5 f6 rs es ts False n a lv h',⟨Ga b d rs 0,rs,_,Nat.le_refl _,rfl,hl,hr,by rw[List.length_set];exact hv,S1,Fr.refl _ _,by omega,by omega,fun _=>by simp[mG],fun h=>h.elim⟩,?_⟩
 rintro n a lv st h3 ⟨sF,pI,i1,i2,i3,i4,i5,S3,Vt,i6,i7,i8,_⟩ cF
 refine⟨fun e1=>⟨fun e2=> ?_,fun e2=> ?_⟩,fun e1=> ?_⟩
 ·simp only[decide_eq_true_eq,Bool.not_eq_true',decide_eq_false_iff_not]at e1 e2
  have h0:0<=a:=by omega
  obtain⟨r,Ct⟩:∃r,r=(sF.getD a.toNat 0+1)%((b:Int)+1):=⟨_,rfl⟩
  obtain⟨s0,s1,s3,s4,s5,s6,s7⟩:=Ps (by omega) i3 (by omega) i4 h0 e2 Ct
  have hq:0<=sF.getD a.toNat 0/\sF.getD a.toNat 0<=b:=by
   have hi:a.toNat<sF.length:=by omega
   have:sF.getD a.toNat 0=sF[a.toNat]:=by rw[List.getD_eq_getElem?_getD,List.getElem?_eq_getElem hi,Option.getD_some]
   rw[this];exact i4 _ (List.getElem_mem hi)
  have ev:Int.tmod (aL (sF.getD a.toNat 0+1)) (aL ((b:Int)+1))=r:=by
   rw[aG _ (by omega) (by omega),aG _ (by omega) (by omega),Int.tmod_eq_emod_of_nonneg (by omega),Ct]
  obtain⟨c1,c2,c3,S4,ZO⟩:=S3.Gb h0 (by omega) r
  refine⟨c1,_,c2,by rw[aG _ (by omega) (by omega)];omega,c1,?_⟩
  rw[ev]
  refine⟨c3,gH cF ZO S3.nr,fun h4 e4 dS=> ?_⟩
  subst e4
  have G:=Pu (Nat.lt_of_lt_of_le s4 i1) h0 e2 i2
  rw[<-Ct]at G
  obtain⟨d1,d2,_,_,_⟩:=S4.Gb h0 (by rw[List.length_set];omega) 0
  have eg:(sF.set a.toNat r).getD a.toNat 0=r:=by
   rw[List.getD_eq_getElem?_getD,List.getElem?_set_self (by omega),Option.getD_some]
  rw[eg]at d2
  have F4:Fr (fun k=>lo<=k) _ _:=Vt.trans (ZO.mono fun k _ hk=>(S3.r.aH hk).1)
  have l1:=i8 h0
  refine⟨fun x1 x2 h'=>x1=vS b a r/\ -1<=x1/\x1<=(bA b d:Int)/\(0<=x1->x2=(fJ b x1.toNat:Int)/\x2<=d)/\h'=Mx.cK h3 (f3.at a 1) (VI r),⟨d1,r,d2,fun e3=> ?_,fun e3=>⟨fun e5=> ?_,fun e5=> ?_⟩⟩,?_⟩
  ·simp only[decide_eq_true_eq]at e3
   obtain⟨t1,t2,t3⟩:=s6 e3
   have hab:0<=a*(b:Int):=Int.mul_nonneg h0 (by omega)
   have Pv:vS b a r=a*b+r:=by unfold vS;rw[if_pos e3]
   rw[Pv]
   generalize a*(b:Int)=q at*
   rw[aG q (by omega) (by omega),aG (q+r) (by omega) (by omega),aG (lv+1) (by omega) (by omega)]
   exact⟨rfl,by omega,by omega,fun _=>⟨by rw[t1];omega,by omega⟩,rfl⟩
  ·simp only[decide_eq_true_eq,decide_eq_false_iff_not]at e3 e5
   have Pv:vS b a r= -1:=by unfold vS;rw[if_neg e3,if_pos e5]
   rw[Pv]
   exact⟨rfl,by omega,by omega,fun h=>by omega,rfl⟩
  ·simp only[decide_eq_false_iff_not]at e3 e5
   obtain⟨t1,t2,t3⟩:=s7 e3 e5
   have Pv:vS b a r=(a-1)/b:=by unfold vS;rw[if_neg e3,if_neg e5]
   rw[Pv,aG (a-1) (by omega) (by omega),Int.tdiv_eq_ediv_of_nonneg (by omega),aG (lv-1) (by omega) (by omega),aG _ (by omega) (by omega)]
   exact⟨by omega,rfl,by omega,by omega,fun _=>⟨by omega,by omega⟩,rfl⟩
  rintro x1 x2 h5 ⟨rfl,x3,x4,x5,rfl⟩ gh
  refine⟨fun e3=> ?_,fun e3=> ?_⟩
  ·simp only[Bool.not_eq_true',decide_eq_false_iff_not]at e3
   obtain⟨y1,y2⟩:=x5 (by omega)
   obtain⟨g1,g2,g3,S5,f5'⟩:=S4.py.Gb (i:=x2) (by omega) (by omega) (aL (pI.getD x2.toNat 0+1))
   refine⟨g1,_,g2,g1,g3,gH gh f5' S4.nv,fun h6 e6 jG=> ?_⟩
   subst e6
   exact⟨n-1,by omega,_,_,by omega,G,by rw[List.length_set];exact i3,s3,by rw[List.length_set];exact i5,S5.py,F4.trans (f5'.mono fun k _ hk=>(S4.v.aH hk).1),x3,x4,fun h=>(x5 h).1,fun h=>h.elim⟩
  ·simp only[Bool.not_eq_false',decide_eq_true_eq]at e3
   exact⟨n-1,by omega,_,_,by omega,G,by rw[List.length_set];exact i3,s3,i5,S4,F4,x3,x4,fun h=>by omega,fun h=>h.elim⟩
 all_goals
  have ZP:¬(0<=a/\a<(bA b (d-1):Int)):=by
   first
   |(simp only[decide_eq_false_iff_not]at e2;omega)
   |(simp only[Bool.not_eq_false',decide_eq_true_eq]at e1;omega)
  rw[Ku _ _ _ _ _ ZP]at i2
  have p1:=sR b (d-1)
  have eE:Ae b d rs=if a= -1 then 0 else 1:=by unfold Ae;rw[<-i2]
  have eR:(Uz b d rs).1=sF:=by rw[<-i2]
  have z3:lo<=h3.size:=Nat.le_of_lt (Nat.lt_of_le_of_lt S3.lb S3.hb)
  have F3:=F1.trans Vt
  have fin:∀h' t u,Vars h' [(b1,[VI b,VI d,f3.v,t.v,u.v,f6.v])]->k9 lo h' b1 f3 t u f6 sF (es++[Ae b d rs]) (ts++[st]) pI->Fr (fun k=>lo<=k) h3 h'->K (.tuple #[]) h':=fun h' t u V S' f=>HK h' t u _ _ V (by rw[eR];exact S') (by simp) i5 (F3.trans f)
  refine⟨fun x h'=>x=Ae b d rs/\h'=h3,⟨fun e=>⟨by simp only[decide_eq_true_eq]at e;rw[eE,if_pos e],rfl⟩,fun e=>⟨by simp only[decide_eq_false_iff_not]at e;rw[eE,if_neg e],rfl⟩⟩,?_⟩
  rintro x _ ⟨rfl,rfl⟩ dS
  have box:∀{X Y:Heap},Fr (In [b1,b1]) X Y->Fr (fun k=>lo<=k) X Y:=fun f=>f.mono fun k _ hk=>by simp[In]at hk;have:=S3.lb;omega
  refine⟨?_,?_⟩
  ·refine fK _ fun x5 h5 o5 f5=>⟨x5,rfl,dS.aB f5,?_⟩
   have S5:=S3.no f5
   have z5:=f5.size
   refine⟨?_,?_⟩
   ·refine S5.iL.DR (by omega) o5.rd (by omega) fun t h6 S6 f6 w6=>⟨t,rfl,gH (dS.aB f5) f6 S5.ne,?_⟩
    have z6:=f6.size
    refine fK _ fun x7 h7 o7 f7=>⟨x7,rfl,(gH (dS.aB f5) f6 S5.ne).aB f7,?_⟩
    have S7:=S6.iL.no f7
    have z7:=f7.size
    refine S7.toT.DR (by omega) o7.rd (by omega) fun u h8 S8 f8 w8=>⟨u,rfl,gH ((gH (dS.aB f5) f6 S5.ne).aB f7) f8 S7.nt,fun h9 f9 fP=> ?_⟩
    refine fin h9 t u fP (S8.ofT.LY f9 (by simp)) ((((f5.aB.trans (f6.mono fun k _ hk=>(S5.e.aH hk).1)).trans f7.aB).trans (f8.mono fun k _ hk=>(S7.t.aH hk).1)).trans (box f9))
   ·refine fK _ fun x7 h7 o7 f7=>⟨x7,rfl,(dS.aB f5).aB f7,?_⟩
    have z7:=f7.size
    have S7:=S5.no f7
    refine S7.iL.DR (by omega) (Ow.no o5 f7).rd (by omega) fun t h6 S6 f6 w6=>⟨t,rfl,gH ((dS.aB f5).aB f7) f6 S7.ne,?_⟩
    have z6:=f6.size
    have o6:=Ow.fr o7 f6 fun k hk aI=>by have h1:=(o7.aH hk).1;have h2:=(S5.e.aH aI).2;omega
    refine S6.iL.toT.DR (by omega) o6.rd (by omega) fun u h8 S8 f8 w8=>⟨u,rfl,gH (gH ((dS.aB f5).aB f7) f6 S7.ne) f8 S6.iL.nt,fun h9 f9 fP=> ?_⟩
    refine fin h9 t u fP (S8.ofT.LY f9 (by simp)) ((((f5.aB.trans f7.aB).trans (f6.mono fun k _ hk=>(S7.e.aH hk).1)).trans (f8.mono fun k _ hk=>(S6.iL.t.aH hk).1)).trans (box f9))
  ·refine fK _ fun x7 h7 o7 f7=>⟨x7,rfl,dS.aB f7,?_⟩
   have z7:=f7.size
   refine fK _ fun x5 h5 o5 f5=>⟨x5,rfl,(dS.aB f7).aB f5,?_⟩
   have z5:=f5.size
   have S5:=(S3.no f7).no f5
   refine S5.iL.DR (by omega) o5.rd (by omega) fun t h6 S6 f6 w6=>⟨t,rfl,gH ((dS.aB f7).aB f5) f6 S5.ne,?_⟩
   have z6:=f6.size
   have o6:=Ow.fr (Ow.no o7 f5) f6 fun k hk aI=>by have h1:=(o7.aH hk).1;have h2:=(S3.e.aH aI).2;omega
   refine S6.iL.toT.DR (by omega) o6.rd (by omega) fun u h8 S8 f8 w8=>⟨u,rfl,gH (gH ((dS.aB f7).aB f5) f6 S5.ne) f8 S6.iL.nt,fun h9 f9 fP=> ?_⟩
   refine fin h9 t u fP (S8.ofT.LY f9 (by simp)) ((((f7.aB.trans f5.aB).trans (f6.mono fun k _ hk=>(S5.e.aH hk).1)).trans (f8.mono fun k _ hk=>(S6.iL.t.aH hk).1)).trans (box f9))
set_option maxHeartbeats 4000000 in
theorem Tu{b d:Nat}(hb:2<=b/\b<=3)(hd:1<=d/\d<=6){lo:Nat}{h:Heap}(wj:lo<=h.size){b1:Nat}{f3 f4 f5 f6:Sl}{rs es ts vs:List Int}(hL:Vars h [(b1,[VI b,VI d,VI (bA b (d-1):Nat),f3.v,f4.v,f5.v,f6.v])])(S:k9 lo h b1 f3 f4 f5 f6 rs es ts vs)(hl:rs.length=bA b (d-1))(hr:∀r,r∈rs->0<=r/\r<=(b:Int))(hv:vs.length=d+1)(he:es.length<=300)(ht:ts.length<=300)(K:Value->Heap->Prop)
 (HK:∀h' t u ws pI,Vars h' [(b1,[VI b,VI d,VI (bA b (d-1):Nat),f3.v,t.v,u.v,f6.v])]->k9 lo h' b1 f3 t u f6 (Uz b d rs).1 (es++[Ae b d rs]) ws pI->ws.length=ts.length+1->pI.length=d+1->Fr (fun k=>lo<=k) h h'->K (.tuple #[]) h'):aE Tryz.prog 240 #[VP b1 0] h K:=by
 have hs:=fS b (by omega) d (by omega)
 have VG:=fS b (by omega) (d-1) (by omega)
 refine ahz b1 b d (bA b (d-1):Nat) f3 f4 f5 f6 h K hL ?_
 unfold abk pk
 obtain⟨a1,a2,a3,S1,f1⟩:=S.py.Gb (i:=0) (by omega) (by omega) (aL (vs.getD (0:Int).toNat 0+1))
 refine⟨a1,_,a2,a1,a3,gH hL f1 S.nv,fun h2 e2 bW=> ?_⟩
 subst e2
 have S1:=S1.py
 have F1:Fr (fun k=>lo<=k) h _:=f1.mono fun k _ hk=>(S.v.aH hk).1
 refine⟨fun n a lv st h'=>UA b d lo _ b1 f3 f4 f5 f6 rs es ts True n a lv h',⟨Ga b d rs 0,rs,_,Nat.le_refl _,rfl,hl,hr,by rw[List.length_set];exact hv,S1,Fr.refl _ _,by omega,by omega,fun _=>by simp[mG],fun _ h=>by omega⟩,?_⟩
 rintro n a lv st h3 ⟨sF,pI,i1,i2,i3,i4,i5,S3,Vt,i6,i7,i8,i9⟩ cF
 refine⟨fun e1=>⟨fun e2=> ?_,fun e2=> ?_⟩,fun e1=> ?_⟩
 ·simp only[decide_eq_true_eq]at e1 e2
  have h0:0<=a:=e1
  obtain⟨r,Ct⟩:∃r,r=(sF.getD a.toNat 0+1)%((b:Int)+1):=⟨_,rfl⟩
  obtain⟨s0,s1,s3,s4,s5,s6,s7⟩:=Ps (by omega) i3 (by omega) i4 h0 e2 Ct
  have hq:0<=sF.getD a.toNat 0/\sF.getD a.toNat 0<=b:=by
   have hi:a.toNat<sF.length:=by omega
   have:sF.getD a.toNat 0=sF[a.toNat]:=by rw[List.getD_eq_getElem?_getD,List.getElem?_eq_getElem hi,Option.getD_some]
   rw[this];exact i4 _ (List.getElem_mem hi)
  have ev:Int.tmod (aL (sF.getD a.toNat 0+1)) (aL ((b:Int)+1))=r:=by
   rw[aG _ (by omega) (by omega),aG _ (by omega) (by omega),Int.tmod_eq_emod_of_nonneg (by omega),Ct]
  obtain⟨c1,c2,c3,S4,ZO⟩:=S3.Gb h0 (by omega) r
  refine⟨c1,_,c2,by rw[aG _ (by omega) (by omega)];omega,c1,?_⟩
  rw[ev]
  refine⟨c3,gH cF ZO S3.nr,fun h4 e4 dS=> ?_⟩
  subst e4
  have G:=Pu (Nat.lt_of_lt_of_le s4 i1) h0 e2 i2
  rw[<-Ct]at G
  obtain⟨d1,d2,_,_,_⟩:=S4.Gb h0 (by rw[List.length_set];omega) 0
  have eg:(sF.set a.toNat r).getD a.toNat 0=r:=by
   rw[List.getD_eq_getElem?_getD,List.getElem?_set_self (by omega),Option.getD_some]
  rw[eg]at d2
  have F4:Fr (fun k=>lo<=k) _ _:=Vt.trans (ZO.mono fun k _ hk=>(S3.r.aH hk).1)
  have l1:=i8 h0
  refine⟨fun x1 x2 h'=>x1=vS b a r/\ -1<=x1/\x1<=(bA b d:Int)/\(0<=x1->x2=(fJ b x1.toNat:Int)/\x2<=d)/\(x1<0->x2<0)/\h'=Mx.cK h3 (f3.at a 1) (VI r),⟨d1,r,d2,fun e3=> ?_,fun e3=>⟨fun e5=> ?_,fun e5=> ?_⟩⟩,?_⟩
  ·simp only[decide_eq_true_eq]at e3
   obtain⟨t1,t2,t3⟩:=s6 e3
   have hab:0<=a*(b:Int):=Int.mul_nonneg h0 (by omega)
   have Pv:vS b a r=a*b+r:=by unfold vS;rw[if_pos e3]
   rw[Pv]
   generalize a*(b:Int)=q at*
   rw[aG q (by omega) (by omega),aG (q+r) (by omega) (by omega),aG (lv+1) (by omega) (by omega)]
   exact⟨rfl,by omega,by omega,fun _=>⟨by rw[t1];omega,by omega⟩,fun h=>by omega,rfl⟩
  ·simp only[decide_eq_true_eq,decide_eq_false_iff_not]at e3 e5
   have Pv:vS b a r= -1:=by unfold vS;rw[if_neg e3,if_pos e5]
   have l0:fJ b a.toNat=0:=by rw[e5];exact mG b
   rw[Pv,aG (lv-1) (by omega) (by omega)]
   exact⟨rfl,by omega,by omega,fun h=>by omega,fun _=>by omega,rfl⟩
  ·simp only[decide_eq_false_iff_not]at e3 e5
   obtain⟨t1,t2,t3⟩:=s7 e3 e5
   have Pv:vS b a r=(a-1)/b:=by unfold vS;rw[if_neg e3,if_neg e5]
   rw[Pv,aG (a-1) (by omega) (by omega),Int.tdiv_eq_ediv_of_nonneg (by omega),aG (lv-1) (by omega) (by omega),aG _ (by omega) (by omega)]
   exact⟨by omega,rfl,by omega,by omega,fun _=>⟨by omega,by omega⟩,fun h=>by omega,rfl⟩
  rintro x1 x2 h5 ⟨rfl,x3,x4,x5,x6,rfl⟩ gh
  refine⟨fun e3=> ?_,fun e3=> ?_⟩
  ·simp only[decide_eq_true_eq]at e3
   have NJ:0<=vS b a r:=by
    by_cases hh:0<=vS b a r
    ·exact hh
    ·have:=x6 (by omega);omega
   obtain⟨y1,y2⟩:=x5 NJ
   obtain⟨g1,g2,g3,S5,f5'⟩:=S4.py.Gb (i:=x2) (by omega) (by omega) (aL (pI.getD x2.toNat 0+1))
   refine⟨g1,_,g2,g1,g3,gH gh f5' S4.nv,fun h6 e6 jG=> ?_⟩
   subst e6
   exact⟨n-1,by omega,_,_,by omega,G,by rw[List.length_set];exact i3,s3,by rw[List.length_set];exact i5,S5.py,F4.trans (f5'.mono fun k _ hk=>(S4.v.aH hk).1),x3,x4,fun h=>(x5 h).1,fun _=>x6⟩
  ·simp only[decide_eq_false_iff_not]at e3
   exact⟨n-1,by omega,_,_,by omega,G,by rw[List.length_set];exact i3,s3,i5,S4,F4,x3,x4,fun h=>by have:=x5 h;omega,fun _=>x6⟩
 all_goals
  have ZP:¬(0<=a/\a<(bA b (d-1):Int)):=by
   first
   |(simp only[decide_eq_false_iff_not]at e2;omega)
   |(simp only[decide_eq_false_iff_not]at e1;omega)
  rw[Ku _ _ _ _ _ ZP]at i2
  have p1:=sR b (d-1)
  have eE:Ae b d rs=if a= -1 then 0 else 1:=by unfold Ae;rw[<-i2]
  have eR:(Uz b d rs).1=sF:=by rw[<-i2]
  have z3:lo<=h3.size:=Nat.le_of_lt (Nat.lt_of_le_of_lt S3.lb S3.hb)
  have F3:=F1.trans Vt
  have fin:∀h' t u,Vars h' [(b1,[VI b,VI d,VI (bA b (d-1):Nat),f3.v,t.v,u.v,f6.v])]->k9 lo h' b1 f3 t u f6 sF (es++[Ae b d rs]) (ts++[st]) pI->Fr (fun k=>lo<=k) h3 h'->K (.tuple #[]) h':=fun h' t u V S' f=>HK h' t u _ _ V (by rw[eR];exact S') (by simp) i5 (F3.trans f)
  refine⟨fun x h'=>x=Ae b d rs/\h'=h3,⟨fun e=>⟨by simp only[decide_eq_true_eq]at e;rw[eE,if_neg (by omega)],rfl⟩,fun e=>⟨by simp only[decide_eq_false_iff_not]at e;rw[eE,if_pos (by omega)],rfl⟩⟩,?_⟩
  rintro x _ ⟨rfl,rfl⟩ dS
  have box:∀{X Y:Heap},Fr (In [b1]) X Y->Fr (fun k=>lo<=k) X Y:=fun f=>f.mono fun k _ hk=>by simp[In]at hk;have:=S3.lb;omega
  refine fK _ fun x5 h5 o5 f5=>⟨x5,rfl,dS.aB f5,?_⟩
  have S5:=S3.no f5
  have z5:=f5.size
  refine S5.iL.DR (by omega) o5.rd (by omega) fun t h6 S6 f6 w6=>⟨t,rfl,gH (dS.aB f5) f6 S5.ne,fun h7 f7 jv=> ?_⟩
  have z6:=f6.size
  have z7:=f7.size
  have S7:=S6.iL.LY f7 (by simp)
  refine fK _ fun x8 h8 o8 f8=>⟨x8,rfl,jv.aB f8,?_⟩
  have z8:=f8.size
  have S8:=S7.no f8
  refine S8.toT.DR (by omega) o8.rd (by omega) fun u h9 S9 f9 w9=>⟨u,rfl,gH (jv.aB f8) f9 S8.nt,fun dV f10 dL=> ?_⟩
  exact fin dV t u dL (S9.ofT.LY f10 (by simp)) (((((f5.aB.trans (f6.mono fun k _ hk=>(S5.e.aH hk).1)).trans (box f7)).trans f8.aB).trans (f9.mono fun k _ hk=>(S8.t.aH hk).1)).trans (box f10))
theorem UB{S:Nat->Prop}{h:Heap}{s:Sl}{xs:List Int}(H:aQ S h s xs)(hb:∀x,x∈xs->0<=x/\x<=20)(hn:xs.length<=1000)(K:Value->Heap->Prop)(HK:K (VI xs.sum) h):aE Tryz.prog 172 #[s.v] h K:=by
 refine af3 s h K ⟨fun n t i h'=>h'=h/\0<=i/\i+n=(xs.length:Int)/\t=(xs.take i.toNat).sum/\0<=t/\t<=20*i,⟨xs.length,rfl,by omega,by omega,by simp,by omega,by omega⟩,?_⟩
 rintro n t i _ ⟨rfl,i0,i1,e1,t0,t1⟩ hL
 refine⟨fun e=> ?_,fun e=> ?_⟩
 ·have hi:=H.lt e
  have hx:=hb _ (List.getElem_mem (show i.toNat<xs.length by omega))
  refine⟨H.bB i0 hi,_,H.get i0 hi,?_⟩
  rw[H.succ i0 hi,aG _ (by omega) (by omega)]
  refine⟨n-1,by omega,rfl,by omega,by omega,?_,by omega,by omega⟩
  rw[dX xs i0 hi,List.sum_append,e1]
  simp
 ·have hi:=H.ge e
  rw[List.take_of_length_le (by omega)]at e1
  rw[e1]
  exact HK
theorem Tw{S:Nat->Prop}{h:Heap}{s:Sl}{xs:List Int}(H:aQ S h s xs)(hb:∀x,x∈xs->0<=x/\x<=20)(hn:xs.length<=1000)(K:Value->Heap->Prop)(HK:K (VI xs.sum) h):aE Tryz.prog 190 #[s.v] h K:=by
 refine agx s h K ⟨fun n t i h'=>h'=h/\0<=i/\i+n=(xs.length:Int)/\t=(xs.take i.toNat).sum/\0<=t/\t<=20*i,⟨xs.length,rfl,by omega,by omega,by simp,by omega,by omega⟩,?_⟩
 rintro n t i _ ⟨rfl,i0,i1,e1,t0,t1⟩ hL
 refine⟨fun e=> ?_,fun e=> ?_⟩
 ·have hi:=H.lt e
  have hx:=hb _ (List.getElem_mem (show i.toNat<xs.length by omega))
  refine⟨H.bB i0 hi,_,H.get i0 hi,?_⟩
  rw[H.succ i0 hi,aG _ (by omega) (by omega)]
  refine⟨n-1,by omega,rfl,by omega,by omega,?_,by omega,by omega⟩
  rw[dX xs i0 hi,List.sum_append,e1]
  simp
 ·have hi:=H.ge e
  rw[List.take_of_length_le (by omega)]at e1
  rw[e1]
  exact HK
theorem pW{b d:Nat}(hb:0<b)(hd:0<d):∀(n:Nat){rs:List Int},rs.length=bA b (d-1)->(∀r,r∈rs->0<=r/\r<=(b:Int))->(nD b d n rs).1.length=bA b (d-1)/\(∀r,r∈(nD b d n rs).1->0<=r/\r<=(b:Int))/\(nD b d n rs).2.length=n/\∀x,x∈(nD b d n rs).2->0<=x/\x<=1
 |0,rs,hl,hr=>⟨hl,hr,rfl,fun x hx=>by simp[nD]at hx⟩
 |n+1,rs,hl,hr=>by
  obtain⟨a1,a2,a3,a4⟩:=pW hb hd n hl hr
  obtain⟨b1,b2⟩:=Gc hb hd (Ga b d (nD b d n rs).1 0) (a:=0) a1 a2
  refine⟨b1,b2,by simp[nD,a3],fun x hx=> ?_⟩
  simp only[nD,List.mem_append,List.mem_singleton]at hx
  rcases hx with hx|rfl
  ·exact a4 x hx
  ·split<;>omega
theorem wI{b d k n:Int}(h:qk b d k n=true):∃B D N:Nat,b=B/\d=D/\n=N/\(2<=B/\B<=3)/\(1<=D/\D<=6)/\bA B D<=130/\(0<=k/\k<=B)/\N<=200:=by
 unfold qk at h
 simp only[Bool.and_eq_true,decide_eq_true_eq]at h
 obtain⟨⟨h1,h2⟩,h3⟩:=h
 exact⟨b.toNat,d.toNat,n.toNat,by omega,by omega,by omega,by omega,by omega,by omega,by omega,by omega⟩
theorem mH{b k:Int}{m:Nat}(h:0<=k/\k<=b):∀r,r∈List.replicate m k->0<=r/\r<=b:=fun r hr=>by rw[List.eq_of_mem_replicate hr];exact h
theorem Gd{b d:Nat}(hb:2<=b)(hd:1<=d)(h:bA b d<=130):bA b (d-1)<=100:=by
 have e:bA b d=b*bA b (d-1)+1:=by rw[<-sQ,Nat.sub_add_cancel hd]
 have:=Nat.mul_le_mul_right (bA b (d-1)) hb
 omega
theorem iM{h:Heap}{n:Int}{m:Nat}(e:n=m)(hm:m<=100000){K:Value->Heap->Prop}(HK:∀x h',bR h' (fun k=>h.size<=k) x (List.replicate m 0)->Fr No h h'->K x.v h'):jQ Tryz.prog (Instr.makeSlice qQ (VI n) (VI n)) h K:=by
 subst e
 refine eA fx (fun k=>_<=k) (fun _ h=>h) .i64 .i64 m m (Nat.le_refl _) (by omega) fun t h2 n2 c2 o2 f2 m2 _=>HK t h2 ?_ f2
 have e:(List.replicate m [VI 0]).flatten=(List.replicate m (0:Int)).map VI:=by simp[List.flatten_replicate_singleton]
 show Ow _ _ _ _ _ _
 rw[e]at o2;exact o2
set_option maxHeartbeats 4000000 in
theorem IV{h:Heap}(b d k n:Int)(K:Value->Heap->Prop)(HN:qk b d k n=false->K (.tuple #[.pointer none,VB false]) h)
 (HY:qk b d k n=true->∀b1 h' f3 f4 f5 f6,Vars h' [(b1,[VI b,VI d,Sl.v f3,Sl.v f4,Sl.v f5,Sl.v f6])]->bR h' (fun k=>h.size<=k) f4 (nD b.toNat d.toNat n.toNat (List.replicate (bA b.toNat (d.toNat-1)) k)).2->Fr No h h'->K (.tuple #[VP b1 0,VB true]) h'):aE Tryz.prog 221 #[VI b,VI d,VI k,VI n] h K:=by
 refine ahc b d k n h K (Ad b d _ ⟨_,rfl,.nil,fun e=>HN ?_,fun e=> ?_⟩)
 ·unfold qk
  rw[Bool.not_eq_true']at e
  rw[e,Bool.false_and]
 simp only[Bool.not_eq_false',Bool.and_eq_true,decide_eq_true_eq]at e
 refine eJ _ _ _ h _ ⟨_,rfl,.nil,fun e2=>HN ?_,fun e2=> ?_⟩
 ·unfold qk
  rw[decide_eq_false (p:=0<=k/\k<=b/\0<=n/\n<=200) (fun h=>by simp at e2;omega),Bool.and_false]
 have e2:0<=k/\k<=b:=by simpa using e2
 refine eJ _ _ _ h _ ⟨_,rfl,.nil,fun e3=>HN ?_,fun e3=> ?_⟩
 ·unfold qk
  rw[decide_eq_false (p:=0<=k/\k<=b/\0<=n/\n<=200) (fun h=>by simp at e3;omega),Bool.and_false]
 have e3:0<=n/\n<=200:=by simpa using e3
 have ha:qk b d k n=true:=by unfold qk;simp only[Bool.and_eq_true,decide_eq_true_eq];omega
 replace HY:=HY ha
 obtain⟨B,D,N,rfl,rfl,rfl,q1,q2,q3,q4,q5⟩:=wI ha
 simp only[Int.toNat_natCast]at HY
 have hi:=Gd q1.1 q2.1 q3
 have hp:=sR B (D-1)
 have ed:aL ((D:Int)-1)=((D-1:Nat):Int):=by rw[aG _ (by omega) (by omega)];omega
 have ev:aL ((D:Int)+1)=((D+1:Nat):Int):=by rw[aG _ (by omega) (by omega)];omega
 have UC:∀{X:Heap}{K:Value->Heap->Prop},K (VI (bA B (D-1):Nat)) X->aE Tryz.prog 268 #[VI B,VI (aL ((D:Int)-1))] X K:=fun H=>by rw[ed];exact uL (by omega) (by omega) _ H
 have key:∀{J:Nat->Int->Int->Sl->Sl->Sl->Sl->Heap->Prop},(∀{X:Heap}{r v:Sl},Fr No h X->bR X (fun k=>h.size<=k) r (List.replicate (bA B (D-1)) k)->bR X (fun k=>h.size<=k) v (List.replicate (D+1) 0)->Dj r v->∀b1 h',X.size<=b1->Fr (In []) X h'->Vars h' [(b1,[VI B,VI D,r.v,aC.v,aC.v,v.v])]->J b1 B D r aC aC v h')->
  (∀{X:Heap}{x:Sl}{T:Nat->Prop},Fr No h X->aQ T X x [k]->aE Tryz.prog 267 #[x.v,VI (bA B (D-1):Nat)] X fun rv h6=>∃t:Sl,rv=t.v/\Vars h6 []/\jQ Tryz.prog (Instr.makeSlice qQ (VI (aL ((D:Int)+1))) (VI (aL ((D:Int)+1)))) h6 fun rv h7=>∃t2:Sl,rv=t2.v/\Vars h7 []/\∀b2 h8,h7.size<=b2->Fr (In []) h7 h8->Vars h8 [(b2,[VI B,VI D,t.v,aC.v,aC.v,t2.v])]->J b2 B D t aC aC t2 h8)/\
  (∀{X:Heap}{x v:Sl}{T:Nat->Prop},Fr No h X->aQ T X x [k]->bR X (fun k=>h.size<=k) v (List.replicate (D+1) 0)->aE Tryz.prog 267 #[x.v,VI (bA B (D-1):Nat)] X fun rv h6=>∃t:Sl,rv=t.v/\Vars h6 []/\∀b2 h8,h6.size<=b2->Fr (In []) h6 h8->Vars h8 [(b2,[VI B,VI D,t.v,aC.v,aC.v,v.v])]->J b2 B D t aC aC v h8):=by
  intro J fin
  refine⟨fun fX X0=> ?_,fun fX X0 V0=> ?_⟩
  ·have zX:=fX.size
   refine xM k X0 _ hp hi _ fun r h6 o6 f6=>⟨r,rfl,.nil,iM ev (by omega) fun v h7 o7 f7=>⟨v,rfl,.nil,fin ((fX.aA f6).aA f7) ((Ow.no o6 f7).mono fun k _ hk=>by have:=hk.1;omega) (o7.mono fun k _ hk=>by have:=f6.size;omega) fun k hk aI=> ?_⟩⟩
   have h1:=(o6.aH hk).1
   have h2:=(o7.aH aI).1
   unfold Iv at h1
   omega
  ·have zX:=fX.size
   refine xM k X0 _ hp hi _ fun r h6 o6 f6=>⟨r,rfl,.nil,fin (fX.aA f6) (o6.mono fun k _ hk=>by have:=hk.1;omega) (Ow.no V0 f6) fun k hk aI=> ?_⟩
   have h1:=(o6.aH hk).1
   have h2:=(V0.aH aI).2
   unfold Iv at h1
   omega
 refine⟨fun b1 x1 x2 x3 x4 x5 x6 h'=>x1=(B:Int)/\x2=(D:Int)/\x4=aC/\x5=aC/\k9 h.size h' b1 x3 aC aC x6 (List.replicate (bA B (D-1)) k) [] [] (List.replicate (D+1) 0)/\Fr No h h',?_,?_⟩
 ·obtain⟨RM,MR⟩:=key (J:=fun b1 x1 x2 x3 x4 x5 x6 h'=>x1=(B:Int)/\x2=(D:Int)/\x4=aC/\x5=aC/\k9 h.size h' b1 x3 aC aC x6 (List.replicate (bA B (D-1)) k) [] [] (List.replicate (D+1) 0)/\Fr No h h') fun{X r v} fX r0 v0 dj b1 h' hb f V=>by
   have f:=f.aF
   have zX:=fX.size
   exact⟨rfl,rfl,rfl,rfl,⟨Ow.no r0 f,Ow.nil _ _ _ _,Ow.nil _ _ _ _,Ow.no v0 f,fun k _ h=>cX k h,fun k _ h=>cX k h,dj,fun k h=>absurd h (cX k),fun k h=>absurd h (cX k),fun k h=>absurd h (cX k),fun hk=>by have:=(r0.aH hk).2;omega,cX _,cX _,fun hk=>by have:=(v0.aH hk).2;omega,by omega,V.head.lt⟩,fX.aA f⟩
  have up:∀{X Y:Heap}{v:Sl},Fr No h X->bR Y (fun k=>X.size<=k) v (List.replicate (D+1) 0)->bR Y (fun k=>h.size<=k) v (List.replicate (D+1) 0):=fun f o=>o.mono fun k _ hk=>by have:=f.size;omega
  have r0:=Fr.refl No h
  refine⟨?_,?_,?_⟩
  ·refine fK _ fun x h4 o4 f4=>⟨x,rfl,.nil,UC ⟨_,rfl,.nil,RM f4 o4.rd,iM ev (by omega) fun v h9 o9 f9=>⟨v,rfl,.nil,MR (f4.aA f9) (Ow.no o4 f9).rd (up f4 o9)⟩⟩,iM ev (by omega) fun v h9 o9 f9=>⟨v,rfl,.nil,UC ⟨_,rfl,.nil,MR (f4.aA f9) (Ow.no o4 f9).rd (up f4 o9)⟩⟩⟩
  ·refine UC ⟨_,rfl,.nil,fK _ fun x h4 o4 f4=>⟨x,rfl,.nil,RM f4 o4.rd,iM ev (by omega) fun v h9 o9 f9=>⟨v,rfl,.nil,MR (f4.aA f9) (Ow.no o4 f9).rd (up f4 o9)⟩⟩,iM ev (by omega) fun v h9 o9 f9=>⟨v,rfl,.nil,fK _ fun x h4 o4 f4=>⟨x,rfl,.nil,MR (f9.aA f4) o4.rd (up r0 (Ow.no o9 f4))⟩⟩⟩
  ·refine iM ev (by omega) fun v h9 o9 f9=>⟨v,rfl,.nil,fK _ fun x h4 o4 f4=>⟨x,rfl,.nil,UC ⟨_,rfl,.nil,MR (f9.aA f4) o4.rd (up r0 (Ow.no o9 f4))⟩⟩,UC ⟨_,rfl,.nil,fK _ fun x h4 o4 f4=>⟨x,rfl,.nil,MR (f9.aA f4) o4.rd (up r0 (Ow.no o9 f4))⟩⟩⟩
 rintro b1 _ _ f3 _ _ f6 h3 ⟨rfl,rfl,rfl,rfl,S3,F3⟩ cF
 have hrr:=mH (m:=bA B (D-1)) q4
 refine⟨fun m i x1 x2 x3 x4 x5 x6 h'=>∃(j:Nat)(ts vs:List Int),i=j/\m+j=N/\x1=(B:Int)/\x2=(D:Int)/\k9 h.size h' b1 x3 x4 x5 x6 (nD B D j (List.replicate (bA B (D-1)) k)).1 (nD B D j (List.replicate (bA B (D-1)) k)).2 ts vs/\ts.length=j/\vs.length=D+1/\Fr (fun k=>h.size<=k) h h',⟨N,0,[],_,rfl,by omega,rfl,rfl,S3,rfl,by simp,F3.aB⟩,?_⟩
 rintro m i _ _ x3 x4 x5 x6 h4 ⟨j,ts,vs,rfl,hm,rfl,rfl,S4,t4,v4,F4⟩ dS
 obtain⟨c1,c2,c3,c4⟩:=pW (b:=B) (d:=D) (by omega) (by omega) j (rs:=List.replicate (bA B (D-1)) k) (by simp) hrr
 refine⟨fun e4=> ?_,fun e4=> ?_⟩
 ·simp only[decide_eq_true_eq]at e4
  refine Tt q1 q2 (by have:=S4.lb;have:=S4.hb;omega) dS S4 c1 c2 v4 (by omega) (by omega) _ fun h5 t u ws pI V5 S5 l5 l6 f5=>⟨_,_,_,_,_,_,V5,m-1,by omega,j+1,ws,pI,?_,by omega,rfl,rfl,S5,by omega,l6,F4.trans f5⟩
  rw[aG _ (by omega) (by omega)];omega
 ·simp only[decide_eq_false_iff_not]at e4
  have:j=N:=by omega
  subst this
  exact HY b1 h4 x3 x4 x5 x6 dS S4.e (F4.mono fun k hk aI=>absurd aI (by omega))
theorem DS{h:Heap}(b d k n:Int)(K:Value->Heap->Prop)(HN:qk b d k n=false->K (.tuple #[aC.v,VB false]) h)
 (HY:qk b d k n=true->∀t h',bR h' (fun k=>h.size<=k) t (nD b.toNat d.toNat n.toNat (List.replicate (bA b.toNat (d.toNat-1)) k)).2->Fr No h h'->K (.tuple #[t.v,VB true]) h'):aE Tryz.prog 171 #[VI b,VI d,VI k,VI n] h K:=by
 refine v171 b d k n h K (IV b d k n _ (fun e=>⟨none,false,rfl,.nil,fun _=>HN e,fun e=>by cases e⟩) fun e b1 h' f3 f4 f5 f6 V O f=>⟨some ⟨b1,0,none⟩,true,rfl,.nil,fun e=>(by cases e),fun _=>⟨b1,b,d,f3,f4,f5,f6,rfl,V,HY e f4 h' O f⟩⟩)
theorem Ge{h:Heap}(b d k n:Int)(K:Value->Heap->Prop)(HK:∀h',Fr No h h'->K (.tuple #[VI (zx b d k n).1,VB (zx b d k n).2]) h'):aE Tryz.prog 117 #[VI b,VI d,VI k,VI n] h K:=by
 refine v117 b d k n h K (DS b d k n _ (fun e=>⟨aC,false,rfl,.nil,?_⟩) fun e t h' O f=>⟨t,true,rfl,.nil,?_⟩)
 ·unfold zx at HK
  rw[if_neg (by rw[e];decide)]at HK
  exact UB (S:=fun _=>True) (xs:=[]) (cM.nil (fun _=>True) h 1) (fun x hx=>by simp at hx) (by simp) _ ⟨_,rfl,.nil,HK h (Fr.refl _ _)⟩
 ·unfold zx at HK
  rw[if_pos e]at HK
  obtain⟨B,D,N,rfl,rfl,rfl,q1,q2,q3,q4,q5⟩:=wI e
  simp only[Int.toNat_natCast]at O HK
  obtain⟨c1,c2,c3,c4⟩:=pW (b:=B) (d:=D) (by omega) (by omega) N (rs:=List.replicate (bA B (D-1)) k) (by simp) (mH q4)
  exact UB O.rd (fun x hx=>by have:=c4 x hx;omega) (by omega) _ ⟨_,rfl,.nil,HK h' f⟩
theorem BC{h:Heap}(b d:Int)(K:Value->Heap->Prop)(HN:(decide (2<=b/\b<=3/\1<=d/\d<=6)&&decide ((bA b.toNat d.toNat:Int)<=130))=false->K (VI 0) h)(HY:(decide (2<=b/\b<=3/\1<=d/\d<=6)&&decide ((bA b.toNat d.toNat:Int)<=130))=true->K (VI (bA b.toNat d.toNat)) h):aE Tryz.prog 238 #[VI b,VI d] h K:=by
 refine ahw b d h K (cY _ _ _ h _ ⟨_,rfl,.nil,fun e=>HN ?_,fun e=> ?_⟩)
 ·rw[decide_eq_false (show¬(2<=b/\b<=3/\1<=d/\d<=6)from fun h=>by simp at e;omega),Bool.false_and]
 have e:2<=b/\b<=3:=by simpa using e
 refine cY _ _ _ h _ ⟨_,rfl,.nil,fun e2=>HN ?_,fun e2=> ?_⟩
 ·rw[decide_eq_false (show¬(2<=b/\b<=3/\1<=d/\d<=6)from fun h=>by simp at e2;omega),Bool.false_and]
 have e2:1<=d/\d<=6:=by simpa using e2
 obtain⟨B,rfl⟩:∃B:Nat,b=B:=⟨b.toNat,by omega⟩
 obtain⟨D,rfl⟩:∃D:Nat,d=D:=⟨d.toNat,by omega⟩
 rw[decide_eq_true (show 2<=(B:Int)/\(B:Int)<=3/\1<=(D:Int)/\(D:Int)<=6 by omega),Bool.true_and]at HN HY
 simp only[Int.toNat_natCast,decide_eq_false_iff_not,decide_eq_true_eq]at HN HY
 refine⟨fun n all lev i h'=>∃j:Nat,i=j/\n+j=D/\all=(bA B j:Nat)/\lev=(iU B j:Nat)/\h'=h,⟨D,0,rfl,by omega,rfl,rfl,rfl⟩,?_⟩
 rintro n all lev i h' ⟨j,rfl,hn,rfl,rfl,rfl⟩ hL
 have hs:=fS B (by omega) j (by omega)
 refine⟨fun e3=> ?_,fun e3=> ?_⟩
 ·simp only[decide_eq_true_eq]at e3
  have hs2:=fS B (by omega) (j+1) (by omega)
  have e1:((iU B j:Nat):Int)*(B:Int)=((iU B (j+1):Nat):Int):=by rw[iU];simp
  have e2:bA B (j+1)=bA B j+iU B (j+1):=rfl
  rw[e1,aG ((iU B (j+1):Nat):Int) (by omega) (by omega),aG _ (by omega) (by omega),aG _ (by omega) (by omega)]
  exact⟨n-1,by omega,j+1,by omega,by omega,by omega,rfl,rfl⟩
 ·simp only[decide_eq_false_iff_not]at e3
  have:j=D:=by omega
  subst this
  refine⟨fun e4=>HN ?_,fun e4=>HY ?_⟩
  ·simp only[decide_eq_true_eq]at e4;omega
  ·simp only[decide_eq_false_iff_not]at e4;omega
theorem uM{b d:Nat}(hb:b<4)(hd:d<7){h:Heap}(K:Value->Heap->Prop)(HK:K (VI (iU b d)) h):aE Tryz.prog 273 #[VI b,VI d] h K:=by
 refine aib b d h K ⟨fun n i p h'=>∃j:Nat,i=n/\n+j=d/\p=(iU b j:Nat)/\h'=h,⟨d,0,rfl,by omega,rfl,rfl⟩,?_⟩
 rintro n _ p h' ⟨j,rfl,hn,rfl,rfl⟩ hL
 have hs:=fS b hb j (by omega)
 refine⟨fun e=> ?_,fun e=> ?_⟩
 ·simp only[decide_eq_true_eq]at e
  have hs2:=fS b hb (j+1) (by omega)
  have e1:((iU b j:Nat):Int)*(b:Int)=((iU b (j+1):Nat):Int):=by rw[iU];simp
  rw[e1,aG ((iU b (j+1):Nat):Int) (by omega) (by omega),aG _ (by omega) (by omega)]
  exact⟨n-1,by omega,j+1,by omega,by omega,rfl,rfl⟩
 ·simp only[decide_eq_false_iff_not]at e
  have:j=d:=by omega
  subst this
  exact HK
theorem LZ{h:Heap}(b d k n:Int)(K:Value->Heap->Prop)(HK:K (VB (qk b d k n)) h):aE Tryz.prog 189 #[VI b,VI d,VI k,VI n] h K:=by
 refine agv b d k n h K (BC b d _ (fun e=>⟨0,rfl,.nil,fun e2=>by simp at e2,fun _=> ?_⟩) fun e=>⟨_,rfl,.nil,fun e2=> ?_,fun e2=> ?_⟩)
 ·unfold qk at HK
  rw[e,Bool.false_and]at HK
  exact HK
 ·unfold qk at HK
  rw[e,Bool.true_and]at HK
  refine cY _ _ _ h _ ⟨_,rfl,.nil,fun e3=>cY _ _ _ h _ ⟨_,rfl,.nil,?_⟩,fun e3=> ?_⟩
  ·have e3:0<=k/\k<=b:=by simpa using e3
   have:(decide (0<=n)&&decide (n<=200))=decide (0<=k/\k<=b/\0<=n/\n<=200):=by
    rw[<-Bool.decide_and]
    exact decide_eq_decide.2 ⟨fun h=>⟨e3.1,e3.2,h⟩,fun h=>h.2.2⟩
   rw[this]
   exact HK
  ·rw[decide_eq_false (fun h=>by simp at e3;omega)]at HK
   exact HK
 ·have:=sR b.toNat d.toNat
  simp only[decide_eq_false_iff_not]at e2
  omega
set_option maxHeartbeats 4000000 in
theorem L1{b d:Nat}(hb:2<=b/\b<=3)(hd:1<=d/\d<=6)(hn:bA b d<=130)(k:Int){h:Heap}(K:Value->Heap->Prop)
 (HK:∀b1 h' f3 f6,Vars h' [(b1,[VI b,VI d,VI (bA b (d-1):Nat),Sl.v f3,aC.v,aC.v,Sl.v f6])]->k9 h.size h' b1 f3 aC aC f6 (List.replicate (bA b (d-1)) k) [] [] (List.replicate (d+1) 0)->Fr No h h'->K (VP b1 0) h'):aE Tryz.prog 239 #[VI b,VI d,VI k] h K:=by
 have hi:=Gd hb.1 hd.1 hn
 have en:bA b d=bA b (d-1)+iU b d:=by
  have:d=(d-1)+1:=by omega
  rw[this];rfl
 have ev:aL ((d:Int)+1)=((d+1:Nat):Int):=by rw[aG _ (by omega) (by omega)];omega
 have ei:aL (((bA b d:Nat):Int)-((iU b d:Nat):Int))=((bA b (d-1):Nat):Int):=by rw[aG _ (by omega) (by omega)];omega
 have UC:∀{X:Heap}{K:Value->Heap->Prop},K (VI (bA b d:Nat)) X->aE Tryz.prog 238 #[VI b,VI d] X K:=fun H=>BC b d _ (fun e=>by
  rw[decide_eq_true (show 2<=(b:Int)/\(b:Int)<=3/\1<=(d:Int)/\(d:Int)<=6 by omega),Bool.true_and]at e
  simp only[Int.toNat_natCast,decide_eq_false_iff_not]at e
  omega) fun _=>H
 refine ahy b d k h K ⟨fun b1 x1 x2 x3 x4 x5 x6 x7 h'=>x1=(b:Int)/\x2=(d:Int)/\x3=(bA b (d-1):Nat)/\x4=aC/\x5=aC/\x6=aC/\k9 h.size h' b1 aC aC aC x7 [] [] [] (List.replicate (d+1) 0)/\Fr No h h',?_,?_⟩
 ·have fin:∀{X:Heap}{v:Sl},Fr No h X->bR X (fun k=>h.size<=k) v (List.replicate (d+1) 0)->∀b1 h',X.size<=b1->Fr (In []) X h'->Vars h' [(b1,[VI b,VI d,VI (aL (((bA b d:Nat):Int)-((iU b d:Nat):Int))),aC.v,aC.v,aC.v,v.v])]->(b:Int)=b/\(d:Int)=d/\aL (((bA b d:Nat):Int)-((iU b d:Nat):Int))=(bA b (d-1):Nat)/\aC=aC/\aC=aC/\aC=aC/\k9 h.size h' b1 aC aC aC v [] [] [] (List.replicate (d+1) 0)/\Fr No h h':=fun{X v} fX v0 b1 h' hb f V=>by
   have f:=f.aF
   have zX:=fX.size
   exact⟨rfl,rfl,ei,rfl,rfl,rfl,⟨Ow.nil _ _ _ _,Ow.nil _ _ _ _,Ow.nil _ _ _ _,Ow.no v0 f,fun k h=>absurd h (cX k),fun k h=>absurd h (cX k),fun k h=>absurd h (cX k),fun k h=>absurd h (cX k),fun k h=>absurd h (cX k),fun k h=>absurd h (cX k),cX _,cX _,cX _,fun hk=>by have:=(v0.aH hk).2;omega,by omega,V.head.lt⟩,fX.aA f⟩
  refine⟨UC ⟨_,rfl,.nil,uM (by omega) (by omega) _ ⟨_,rfl,.nil,iM ev (by omega) fun v h3 o3 f3=>⟨v,rfl,.nil,fin f3 o3⟩⟩,iM ev (by omega) fun v h3 o3 f3=>⟨v,rfl,.nil,uM (by omega) (by omega) _ ⟨_,rfl,.nil,fin f3 o3⟩⟩⟩,iM ev (by omega) fun v h3 o3 f3=>⟨v,rfl,.nil,UC ⟨_,rfl,.nil,uM (by omega) (by omega) _ ⟨_,rfl,.nil,fin f3 o3⟩⟩⟩⟩
 rintro b1 _ _ _ _ _ _ f6 h2 ⟨rfl,rfl,rfl,rfl,rfl,rfl,S2,F2⟩ bW
 refine⟨fun m i x1 x2 x3 x4 x5 x6 x7 h'=>∃j:Nat,i=j/\m+j=bA b (d-1)/\x1=(b:Int)/\x2=(d:Int)/\x3=(bA b (d-1):Nat)/\x5=aC/\x6=aC/\k9 h.size h' b1 x4 aC aC x7 (List.replicate j k) [] [] (List.replicate (d+1) 0)/\Fr (fun k=>h.size<=k) h h',⟨bA b (d-1),0,rfl,by omega,rfl,rfl,rfl,rfl,rfl,S2,F2.aB⟩,?_⟩
 rintro m i _ _ _ x4 _ _ x7 h3 ⟨j,rfl,hm,rfl,rfl,rfl,rfl,rfl,S3,F3⟩ cF
 have z3:h.size<=h3.size:=F3.size
 refine⟨fun e=> ?_,fun e=> ?_⟩
 ·simp only[decide_eq_true_eq]at e
  refine fK _ fun x h4 o4 f4=>⟨x,rfl,cF.aB f4,?_⟩
  have S4:=S3.no f4
  have z4:=f4.size
  refine S4.DR (by omega) o4.rd (by simp;omega) fun t h5 S5 f5 w5=>⟨t,rfl,gH (cF.aB f4) f5 S4.nr,fun h6 f6 jG=>⟨m-1,by omega,j+1,?_,by omega,rfl,rfl,rfl,rfl,rfl,?_,?_⟩⟩
  ·rw[aG _ (by omega) (by omega)];omega
  ·have:=S5.LY f6 (by simp)
   rw[<-List.replicate_succ']at this
   exact this
  ·exact((F3.trans f4.aB).trans (f5.mono fun k _ hk=>(S4.r.aH hk).1)).trans (f6.mono fun k _ hk=>by simp[In]at hk;have:=S3.lb;omega)
 ·simp only[decide_eq_false_iff_not]at e
  have:j=bA b (d-1):=by omega
  subst this
  exact HK b1 h3 x4 x7 cF S3 (F3.mono fun k hk aI=>absurd aI (by omega))
theorem ZQ{B D N:Nat}(q1:2<=B/\B<=3)(q2:1<=D/\D<=6)(q3:bA B D<=130){k:Int}(q4:0<=k/\k<=B)(q5:N<=200){h:Heap}(K:Value->Heap->Prop)
 (HK:∀b1 h' f3 f4 f5 f6,Vars h' [(b1,[VI B,VI D,VI (bA B (D-1):Nat),Sl.v f3,Sl.v f4,Sl.v f5,Sl.v f6])]->bR h' (fun k=>h.size<=k) f4 (nD B D N (List.replicate (bA B (D-1)) k)).2->Fr No h h'->K (VP b1 0) h'):aE Tryz.prog 191 #[VI B,VI D,VI k,VI N] h K:=by
 refine agz B D k N h K (L1 q1 q2 q3 k _ fun b1 h3 f3 f6 V3 S3 F3=>⟨some ⟨b1,0,none⟩,rfl,.nil,?_⟩)
 have hrr:=mH (m:=bA B (D-1)) q4
 have z3:=F3.size
 refine⟨fun m i h'=>∃(j:Nat)(x4 x5 x6 x7:Sl)(ts vs:List Int),i=j/\m+j=N/\Vars h' [(b1,[VI B,VI D,VI (bA B (D-1):Nat),x4.v,x5.v,x6.v,x7.v])]/\k9 h.size h' b1 x4 x5 x6 x7 (nD B D j (List.replicate (bA B (D-1)) k)).1 (nD B D j (List.replicate (bA B (D-1)) k)).2 ts vs/\ts.length=j/\vs.length=D+1/\Fr (fun k=>h.size<=k) h h',⟨N,0,f3,aC,aC,f6,[],_,rfl,by omega,V3,S3,rfl,by simp,F3.aB⟩,?_⟩
 rintro m i h4 ⟨j,x4,x5,x6,x7,ts,vs,rfl,hm,dS,S4,t4,v4,F4⟩ _
 obtain⟨c1,c2,c3,c4⟩:=pW (b:=B) (d:=D) (by omega) (by omega) j (rs:=List.replicate (bA B (D-1)) k) (by simp) hrr
 refine⟨fun e4=> ?_,fun e4=> ?_⟩
 ·simp only[decide_eq_true_eq]at e4
  refine Tu q1 q2 (by have:=S4.lb;have:=S4.hb;omega) dS S4 c1 c2 v4 (by omega) (by omega) _ fun h5 t u ws pI V5 S5 l5 l6 f5=>⟨.nil,m-1,by omega,j+1,x4,t,u,x7,ws,pI,?_,by omega,V5,S5,by omega,l6,F4.trans f5⟩
  rw[aG _ (by omega) (by omega)];omega
 ·simp only[decide_eq_false_iff_not]at e4
  have:j=N:=by omega
  subst this
  exact HK b1 h4 x4 x5 x6 x7 dS S4.e (F4.mono fun k hk aI=>absurd aI (by omega))
theorem uN{h:Heap}(b d k n:Int)(K:Value->Heap->Prop)(HK:∀h',Fr No h h'->K (.tuple #[VI (zx b d k n).1,VB (zx b d k n).2]) h'):aE Tryz.prog 141 #[VI b,VI d,VI k,VI n] h K:=by
 refine v141 b d k n h K (LZ b d k n _ ⟨_,rfl,.nil,fun e=> ?_,fun e=> ?_⟩)
 ·unfold zx at HK
  rw[if_neg (by simpa using e)]at HK
  exact HK h (Fr.refl _ _)
 ·have e:qk b d k n=true:=by simpa using e
  unfold zx at HK
  rw[if_pos e]at HK
  obtain⟨B,D,N,rfl,rfl,rfl,q1,q2,q3,q4,q5⟩:=wI e
  simp only[Int.toNat_natCast]at HK
  obtain⟨c1,c2,c3,c4⟩:=pW (b:=B) (d:=D) (by omega) (by omega) N (rs:=List.replicate (bA B (D-1)) k) (by simp) (mH q4)
  refine ZQ q1 q2 q3 q4 q5 _ fun b1 h2 f3 f4 f5 f6 V O f=>⟨some ⟨b1,0,none⟩,rfl,.nil,b1,_,_,_,f3,f4,f5,f6,rfl,V,Tw O.rd (fun x hx=>by have:=c4 x hx;omega) (by omega) _ ⟨_,rfl,V,HK h2 f⟩⟩
def ko(B C i:Nat):Nat:=(B.testBit i).toNat+2*(C.testBit i).toNat
def nxG(i r:Nat):Nat:=if r=0 then i+121 else if r=1 then i+1 else if r=2 then i-121 else i-1
def inG(i:Nat):Bool:=Nat.ble 121 i&&Nat.ble i 14519&& !(Nat.beq (i%121) 0)&& !(Nat.beq (i%121) 120)
def nN:Nat->Nat->Nat->Nat->Nat->Option (Nat×Nat×Nat)
 |0,_,_,_,_=>none
 |n+1,A,B,C,i=>bif A.testBit i then
  bif inG i then nN n A (B^^^2^i) (bif B.testBit i then C^^^2^i else C) (nxG i ((ko B C i+1)%4))else none
  else some (i,B,C)
def Pw(n:Nat)(b:Bool):Nat:=bif b then 2^n-1 else 0
def mJ(b:Bool):Nat:=Pw 14641 b
def eO(k:Nat):Nat->Option (Nat×Nat×Nat×List Nat)
 |0=>some (0,mJ (k.testBit 0),mJ (k.testBit 1),[])
 |n+1=>match eO k n with
  |none=>none
  |some (A,B,C,l)=>match nN 1000 A B C 7320 with
   |none=>none
   |some (i,B',C')=>some (A^^^2^i,B',C',l++[i])
def okG(k:Nat):Bool:=(eO k 250).isSome
theorem Kv(B C i:Nat):ko B C i<4:=by
 unfold ko
 have h1:=Bool.toNat_lt (B.testBit i)
 have h2:=Bool.toNat_lt (C.testBit i)
 omega
theorem kV(B i j:Nat):(B^^^2^i).testBit j=if j=i then !B.testBit j else B.testBit j:=by
 rw[Nat.testBit_xor,Nat.testBit_two_pow]
 by_cases h:j=i
 ·subst h;simp
 ·rw[if_neg h,decide_eq_false (fun e=>h e.symm)];simp
theorem uO(B C i j:Nat):ko (B^^^2^i) (bif B.testBit i then C^^^2^i else C) j=if j=i then(ko B C i+1)%4 else ko B C j:=by
 unfold ko
 by_cases h:j=i
 ·subst h
  rw[if_pos rfl,kV,if_pos rfl]
  cases hB:B.testBit j
  ·cases hC:C.testBit j<;>simp[hC]
  ·rw[cond_true,kV,if_pos rfl]
   cases hC:C.testBit j<;>simp
 ·rw[if_neg h,kV,if_neg h]
  cases hB:B.testBit i
  ·rfl
  ·rw[cond_true,kV,if_neg h]
theorem Px{i:Nat}(h:inG i=true):121<=i/\i<=14519/\i%121≠0/\i%121≠120:=by
 unfold inG at h
 simp only[Bool.and_eq_true,Bool.not_eq_true',Nat.ble_eq]at h
 exact⟨h.1.1.1,h.1.1.2,fun e=>by rw[e]at h;exact absurd h.1.2 (by decide),fun e=>by rw[e]at h;exact absurd h.2 (by decide)⟩
theorem Py(n:Nat)(b:Bool){i:Nat}(h:i<n):(Pw n b).testBit i=b:=by
 unfold Pw
 cases b
 ·simp
 ·rw[cond_true,Nat.testBit_two_pow_sub_one]
  simp[h]
theorem Gf(b:Bool){i:Nat}(h:i<14641):(mJ b).testBit i=b:=Py 14641 b h
theorem Gg{k i:Nat}(hk:k<4)(h:i<14641):ko (mJ (k.testBit 0)) (mJ (k.testBit 1)) i=k:=by
 unfold ko
 rw[Gf _ h,Gf _ h]
 rcases(by omega:k=0\/k=1\/k=2\/k=3)with rfl|rfl|rfl|rfl<;>decide
theorem zy{k:Nat}:∀{m:Nat}(d:Nat),(eO k (m+d)).isSome=true->(eO k m).isSome=true
 |m,0,h=>h
 |m,d+1,h=>by
  refine zy d ?_
  rw[show m+(d+1)=(m+d)+1 by omega,eO]at h
  cases hc:eO k (m+d)with
  |none=>rw[hc]at h;exact h
  |some x=>rfl
theorem Tx:∀k,k<4->okG k=true:=by
 have h0:okG 0=true:=by decide+kernel
 have h1:okG 1=true:=by decide+kernel
 have h2:okG 2=true:=by decide+kernel
 have h3:okG 3=true:=by decide+kernel
 intro k hk
 rcases(by omega:k=0\/k=1\/k=2\/k=3)with rfl|rfl|rfl|rfl
 ·exact h0
 ·exact h1
 ·exact h2
 ·exact h3
theorem lz{k n:Nat}(hk:k<4)(hn:n<=250):∃A B C l,eO k n=some (A,B,C,l):=by
 have h:=zy (k:=k) (m:=n) (250-n) (by rw[Nat.add_sub_cancel' hn];exact Tx k hk)
 obtain⟨⟨A,B,C,l⟩,h⟩:=Option.isSome_iff_exists.1 h
 exact⟨A,B,C,l,h⟩
theorem lA{k n A B C:Nat}{l:List Nat}(h:eO k n=some (A,B,C,l)){A' B' C':Nat}{l':List Nat}(h':eO k (n+1)=some (A',B',C',l')):∃i,nN 1000 A B C 7320=some (i,B',C')/\A'=A^^^2^i/\l'=l++[i]:=by
 rw[eO,h]at h'
 (try simp only at h')
 cases hw:nN 1000 A B C 7320 with
 |none=>rw[hw]at h';cases h'
 |some x=>
  obtain⟨i,B1,C1⟩:=x
  rw[hw]at h'
  (try simp only[Option.some.injEq,Prod.mk.injEq]at h')
  obtain⟨rfl,rfl,rfl,rfl⟩:=h'
  exact⟨i,rfl,rfl,rfl⟩
theorem hJ{k:Nat}:∀{n A B C:Nat}{l:List Nat},eO k n=some (A,B,C,l)->l.length=n
 |0,A,B,C,l,h=>by
  rw[eO]at h
  simp only[Option.some.injEq,Prod.mk.injEq]at h
  rw[<-h.2.2.2];rfl
 |n+1,A,B,C,l,h=>by
  cases hc:eO k n with
  |none=>rw[eO,hc]at h;cases h
  |some x=>
   obtain⟨A0,B0,C0,l0⟩:=x
   obtain⟨i,_,_,e⟩:=lA hc h
   rw[e,List.length_append,hJ hc];rfl
theorem ry{n A B C i:Nat}{R:Nat×Nat×Nat}(h:nN n A B C i=some R)(ht:A.testBit i=true):inG i=true/\∃m,n=m+1/\nN m A (B^^^2^i) (bif B.testBit i then C^^^2^i else C) (nxG i ((ko B C i+1)%4))=some R:=by
 cases n with
 |zero=>cases h
 |succ m=>
  rw[nN,ht,cond_true]at h
  cases hi:inG i with
  |false=>rw[hi]at h;cases h
  |true=>rw[hi]at h;exact⟨rfl,m,rfl,h⟩
theorem uP{n A B C i:Nat}{R:Nat×Nat×Nat}(h:nN n A B C i=some R)(ht:A.testBit i=false):R=(i,B,C):=by
 cases n with
 |zero=>cases h
 |succ m=>
  rw[nN,ht,cond_false]at h
  exact(Option.some.inj h).symm
def bH(x y:Int):Nat:=((x+60)*121+(y+60)).toNat
abbrev fL(x:Int):Prop:= -60<=x/\x<=60
theorem BD{x y u v:Int}(hx:fL x)(hy:fL y)(hu:fL u)(hv:fL v)(h:bH x y=bH u v):x=u/\y=v:=by
 unfold bH at h
 unfold fL at*
 omega
def mvX(x r:Int):Int:=if r=0 then x+1 else if r=2 then x-1 else x
def mvY(y r:Int):Int:=if r=1 then y+1 else if r=0 then y else if r=2 then y else y-1
theorem Gh{x y:Int}{i r:Nat}(hx:fL x)(hy:fL y)(e:bH x y=i)(h:inG i=true)(hr:r<4):fL (mvX x r)/\fL (mvY y r)/\bH (mvX x r) (mvY y r)=nxG i r:=by
 obtain⟨h1,h2,h3,h4⟩:=Px h
 unfold bH at*
 unfold fL at*
 have k1:x≠ -60:=fun hh=>by omega
 have k2:x≠60:=fun hh=>by omega
 have k3:y≠ -60:=fun hh=>by omega
 have k4:y≠60:=fun hh=>by omega
 unfold mvX mvY nxG
 rcases(by omega:r=0\/r=1\/r=2\/r=3)with rfl|rfl|rfl|rfl
 ·simp;omega
 ·simp;omega
 ·simp;omega
 ·simp;omega
def pz(n k:Int):List Int×Bool:=if 1<=n/\n<=250/\0<=k/\k<=3 then match eO k.toNat n.toNat with
 |some (_,_,_,l)=>([((l.getLastD 0:Nat):Int)/121-60,((l.getLastD 0:Nat):Int)%121-60],true)
 |none=>([],false)
 else([],false)
structure nE(P:Program)(kt:TypeId)(f0 f1:Field):Prop where
 und:P.underlying kt=some (.struct #[f0,f1])
 i0:P.underlying f0.type=some (.int .i64)
 i1:P.underlying f1.type=some (.int .i64)
 n0:f0.name≠ "_"
 n1:f1.name≠ "_"
 o0:f0.offset=0
 o1:f1.offset=1
 st:P.stoodInHeld kt=false
def KV(x y:Int):Value:= .agg #[VI x,VI y]
theorem pX{P:Program}{t:TypeId}(h:P.underlying t=some (.int .i64)){cs:Array Value}{i:Nat}{v:Value}(hv:cs[i]?=some v)(w:World):(part t cs i).run P w= .ok v w:=by
 unfold part isAgg
 simp only[Sem.run_bind,run_underlying h,Result.andThen,Sem.run_pure]
 simp[hv]
theorem IW{P:Program}{kt:TypeId}{f0 f1:Field}(T:nE P kt f0 f1)(x y u v:Int)(w:World):(Op.equal kt (KV x y) (KV u v)).run P w= .ok (decide (x=u/\y=v)) w:=by
 have key:∀d,(Op.equalIn (d+2) kt (KV x y) (KV u v)).run P w= .ok (decide (x=u/\y=v)) w:=fun d=>by
  have e:∀(t:TypeId)(a b:Int),P.underlying t=some (.int .i64)->(Op.equalIn (d+1) t (VI a) (VI b)).run P w= .ok (a==b) w:=fun t a b h=>by
   unfold Op.equalIn
   simp[Sem.run_bind,run_underlying h,Result.andThen,VI]
  have p0:∀a b:Int,(part f0.type #[VI a,VI b] f0.offset).run P w= .ok (VI a) w:=fun a b=>by rw[T.o0];exact pX T.i0 rfl w
  have p1:∀a b:Int,(part f1.type #[VI a,VI b] f1.offset).run P w= .ok (VI b) w:=fun a b=>by rw[T.o1];exact pX T.i1 rfl w
  unfold Op.equalIn
  simp only[Sem.run_bind,run_underlying T.und,Result.andThen,KV,run_program,T.st]
  by_cases h0:x=u
  ·by_cases h1:y=v
   ·simp[h0,h1,T.n0,T.n1,Sem.run_pure,Sem.run_bind,Result.andThen,p0,p1,e _ _ _ T.i0,e _ _ _ T.i1]
   ·simp[h0,h1,T.n0,T.n1,Sem.run_pure,Sem.run_bind,Result.andThen,p0,p1,e _ _ _ T.i0,e _ _ _ T.i1]
  ·simp[h0,T.n0,T.n1,Sem.run_pure,Sem.run_bind,Result.andThen,p0,p1,e _ _ _ T.i0,e _ _ _ T.i1]
 exact key 9998
theorem gU{P:Program}{kt:TypeId}{f0 f1:Field}(T:nE P kt f0 f1)(em:Bool)(x y:Int)(w:World):(Instr.checkKey em 10000 kt (KV x y)).run P w= .ok () w:=by
 have e:∀(d:Nat)(t:TypeId)(a:Int),P.underlying t=some (.int .i64)->(Instr.checkKey em (d+1) t (VI a)).run P w= .ok () w:=fun d t a h=>by
  unfold Instr.checkKey
  simp[Sem.run_bind,run_underlying h,Result.andThen,VI]
 have p0:∀a b:Int,(part f0.type #[VI a,VI b] f0.offset).run P w= .ok (VI a) w:=fun a b=>by rw[T.o0];exact pX T.i0 rfl w
 have p1:∀a b:Int,(part f1.type #[VI a,VI b] f1.offset).run P w= .ok (VI b) w:=fun a b=>by rw[T.o1];exact pX T.i1 rfl w
 have key:∀d,(Instr.checkKey em (d+2) kt (KV x y)).run P w= .ok () w:=fun d=>by
  unfold Instr.checkKey
  simp only[Sem.run_bind,run_underlying T.und,Result.andThen,KV]
  simp[Sem.run_bind,Result.andThen,T.n0,T.n1,p0,p1,e d _ _ T.i0,e d _ _ T.i1]
 exact key 9998
def sS(h:Heap)(b:Nat)(eY:List ((Int×Int)×Int)):Prop:=∃(es:Array MapEntry)(clock:Nat),h[b]?=some (.map es clock)/\es.toList.map (fun e=>(e.key,e.val))=eY.map fun q=>(KV q.1.1 q.1.2,VI q.2)
theorem sS.lt{h:Heap}{b:Nat}{eY:List ((Int×Int)×Int)}(M:sS h b eY):b<h.size:=by
 obtain⟨es,c,hb,_⟩:=M
 exact(Array.getElem?_eq_some_iff.1 hb).1
theorem sS.fr{h h':Heap}{b:Nat}{eY:List ((Int×Int)×Int)}{T:Nat->Prop}(M:sS h b eY)(f:Fr T h h')(hT:¬T b):sS h' b eY:=by
 have hl:=M.lt
 obtain⟨es,c,hb,e⟩:=M
 exact⟨es,c,by rw[f.same b hl hT];exact hb,e⟩
def gC:List ((Int×Int)×Int)->Int->Int->Option (Nat×Int)
 |[],_,_=>none
 |q::r,x,y=>if x=q.1.1/\y=q.1.2 then some (0,q.2)else(gC r x y).map fun p=>(p.1+1,p.2)
theorem acS{P:Program}{kt:TypeId}{f0 f1:Field}(T:nE P kt f0 f1)(x y:Int)(w:World):∀(l:List MapEntry)(eY:List ((Int×Int)×Int))(i:Nat),l.map (fun e=>(e.key,e.val))=eY.map (fun q=>(KV q.1.1 q.1.2,VI q.2))->(Instr.findAsking kt (KV x y) l i).run P w= .ok ((gC eY x y).map fun p=>(i+p.1,VI p.2)) w
 |[],[],i,_=>by simp[Instr.findAsking,gC]
 |[],q::r,i,h=>by simp at h
 |e::l,[],i,h=>by simp at h
 |e::l,q::r,i,h=>by
  simp only[List.map_cons,List.cons.injEq,Prod.mk.injEq]at h
  obtain⟨⟨h1,h2⟩,h3⟩:=h
  unfold Instr.findAsking gC
  simp only[Sem.run_bind,h1,IW T,Result.andThen]
  by_cases hq:x=q.1.1/\y=q.1.2
  ·simp[hq,h2,Sem.run_pure]
  ·rw[if_neg (by simpa using hq),if_neg hq,acS T x y w l r (i+1) h3]
   simp[Option.map_map,Function.comp_def,Nat.add_assoc,Nat.add_comm 1]
theorem DT{kt:TypeDesc}{x y:Int}(hk:∀k,kt≠ .int k):∀(l:List MapEntry)(i:Nat),l≠[]->(∀e,e∈l->∃u v,e.key=KV u v)->Instr.findNow kt (KV x y) l i=none
 |[],_,h,_=>absurd rfl h
 |e::l,i,_,h=>by
  obtain⟨u,v,he⟩:=h e List.mem_cons_self
  unfold Instr.findNow
  have:Instr.sameNow kt (KV x y) e.key=none:=by rw[he];cases kt<;>rfl
  rw[this]
theorem iN{P:Program}{kt:TypeId}{f0 f1:Field}(T:nE P kt f0 f1)(x y:Int)(w:World){l:List MapEntry}{eY:List ((Int×Int)×Int)}(h:l.map (fun e=>(e.key,e.val))=eY.map (fun q=>(KV q.1.1 q.1.2,VI q.2))):(Instr.findKey kt (KV x y) l).run P w= .ok ((gC eY x y).map fun p=>(p.1,VI p.2)) w:=by
 unfold Instr.findKey
 simp only[Sem.run_bind,run_underlying T.und,Result.andThen]
 by_cases hl:l=[]
 ·subst hl
  have:eY=[]:=by cases eY with
   |nil=>rfl
   |cons q r=>simp at h
  subst this
  rfl
 ·rw[DT (fun k hk=>by cases hk) l 0 hl fun e he=>by
   have:(e.key,e.val)∈l.map (fun e=>(e.key,e.val)):=List.mem_map.2 ⟨e,he,rfl⟩
   rw[h]at this
   obtain⟨q,_,hq⟩:=List.mem_map.1 this
   exact⟨_,_,(Prod.mk.inj hq).1.symm⟩]
  have:=acS T x y w l eY 0 h
  simp only[Nat.zero_add]at this
  exact this
theorem Gi{P:Program}{t kt et:TypeId}{f0 f1:Field}{h:Heap}{b:Nat}{eY:List ((Int×Int)×Int)}{x y:Int}(T:nE P kt f0 f1)(hm:P.underlying t=some (.map kt et))(hz:oy P et=some (VI 0))(M:sS h b eY){K:Value->Prop}(HK:K (.tuple #[VI (((gC eY x y).map (·.2)).getD 0),VB (gC eY x y).isSome])):zN P (Instr.lookup t (.map (some b)) (KV x y) true) h K:=by
 obtain⟨es,c,hb,e⟩:=M
 refine⟨_,fun w hw=> ?_,HK⟩
 subst hw
 have hzr:(zeroValue et).run P w= .ok (VI 0) w:=by
  unfold oy at hz
  cases hi:P.info? et with
  |none=>rw[hi]at hz;simp at hz
  |some i=>
   rw[hi]at hz
   simp only[Option.bind_some]at hz
   unfold zeroValue
   rw[aK (dP hi w)]
   simp[hz,pure,Sem.run]
 unfold Instr.lookup
 simp only[Sem.run_bind,run_underlying hm,Result.andThen,MapKept.run_getObj_map hb,gU T,iN T x y w e]
 cases hs:gC eY x y with
 |none=>simp[gU T,iN T x y w e,hs,Sem.run,pure,hzr,Result.andThen]
 |some p=>simp[gU T,iN T x y w e,hs,Sem.run,pure,Result.andThen]
theorem Af(x y:Int):Instr.sameBits 10000 (KV x y) (KV x y)=true:=by
 have key:∀d,Instr.sameBits (d+1) (KV x y) (KV x y)=true:=fun d=>by simp[Instr.sameBits,KV,VI]
 exact key 9999
theorem Pz{P:Program}{t kt et:TypeId}{f0 f1:Field}{h:Heap}{b:Nat}{eY:List ((Int×Int)×Int)}{x y v:Int}(T:nE P kt f0 f1)(hm:P.underlying t=some (.map kt et))(M:sS h b eY){j:Nat}{r:Int}(hf:gC eY x y=some (j,r)){K:Value->Heap->Prop}(HK:∀u h',sS h' b (eY.set j ((x,y),v))->Fr (In [b]) h h'->K u h'):Aj P (Instr.mapUpdate t (.map (some b)) (KV x y) (VI v)) h K:=by
 have hl:=M.lt
 obtain⟨es,c,hb,e⟩:=M
 have hkj:∀(eY:List ((Int×Int)×Int))(j:Nat),gC eY x y=some (j,r)->∃h:j<eY.length,eY[j].1=(x,y):=by
  intro eY
  induction eY with
  |nil=>intro j h;cases h
  |cons q l ih=>
   intro j h
   unfold gC at h
   split at h
   ·rename_i hq
    obtain⟨rfl,_⟩:=Prod.mk.inj (Option.some.inj h)
    exact⟨by simp,by simp[hq]⟩
   ·cases hl:gC l x y with
    |none=>rw[hl]at h;cases h
    |some p=>
     rw[hl]at h
     obtain⟨p1,p2⟩:=p
     simp only[Option.map_some,Option.some.injEq,Prod.mk.injEq]at h
     obtain⟨rfl,rfl⟩:=h
     obtain⟨a,b⟩:=ih p1 hl
     exact⟨by simpa using a,by simpa using b⟩
 obtain⟨hj,hq⟩:=hkj eY j hf
 have hlen:es.toList.length=eY.length:=by have:=congrArg List.length e;simpa using this
 have Hz:j<es.size:=by have:es.toList.length=es.size:=Array.length_toList;omega
 have hk:es[j].key=KV x y:=by
  have:(es.toList.map (fun e=>(e.key,e.val)))[j]'(by simpa using Hz)=(eY.map fun q=>(KV q.1.1 q.1.2,VI q.2))[j]'(by simpa using hj):=by simp only[e]
  simp only[List.getElem_map,Array.getElem_toList,Prod.mk.injEq,hq]at this
  exact this.1
 refine⟨fun w hw=> ?_⟩
 subst hw
 refine⟨{w with heap:=w.heap.setIfInBounds b (.map (es.modify j fun e=>{e with key:=KV x y,val:=VI v}) c)},?_,⟨rfl,rfl,rfl⟩,HK _ _ ⟨es.modify j fun e=>{e with key:=KV x y,val:=VI v},c,?_,?_⟩ ⟨by simp,fun i hi dZ=> ?_⟩⟩
 ·unfold Instr.mapUpdate
  simp only[Sem.run_bind,run_underlying hm,Result.andThen,MapKept.run_getObj_map hb,gU T,iN T x y w e,hf,Option.map_some]
  have:((es[j]?).map (·.key)).getD (KV x y)=KV x y:=by rw[Array.getElem?_eq_getElem Hz];simp[hk]
  simp only[this,Instr.keyThatStays,Af,if_true,Sem.run_pure,MapKept.run_setObj_map _ hb]
 ·simp only
  rw[Array.getElem?_setIfInBounds,if_pos rfl,if_pos hl]
 ·rw[Array.toList_modify]
  apply List.ext_getElem?
  intro i
  have ei:=congrArg (fun l=>l[i]?) e
  simp only[List.getElem?_map]at ei⊢
  rw[List.getElem?_modify,List.getElem?_set]
  by_cases TX:j=i
  ·subst TX
   rw[if_pos rfl,if_pos hj,List.getElem?_eq_getElem (by omega)]
   simp
  ·rw[if_neg TX,<-ei]
   cases es.toList[i]?<;>simp[TX]
 ·simp only
  rw[Array.getElem?_setIfInBounds,if_neg (fun hh=>dZ (by simp[In,hh]))]
theorem PA{P:Program}{t kt et:TypeId}{f0 f1:Field}{h:Heap}{b:Nat}{eY:List ((Int×Int)×Int)}{x y v:Int}(T:nE P kt f0 f1)(hm:P.underlying t=some (.map kt et))(M:sS h b eY)(hf:gC eY x y=none){K:Value->Heap->Prop}(HK:∀u h',sS h' b (eY++[((x,y),v)])->Fr (In [b]) h h'->K u h'):Aj P (Instr.mapUpdate t (.map (some b)) (KV x y) (VI v)) h K:=by
 have hl:=M.lt
 obtain⟨es,c,hb,e⟩:=M
 refine⟨fun w hw=> ?_⟩
 subst hw
 refine⟨{w with heap:=w.heap.setIfInBounds b (.map (es.push {key:=KV x y,val:=VI v,born:=c}) (c+1))},?_,⟨rfl,rfl,rfl⟩,HK _ _ ⟨es.push {key:=KV x y,val:=VI v,born:=c},c+1,?_,?_⟩ ⟨by simp,fun j hj dZ=> ?_⟩⟩
 ·unfold Instr.mapUpdate
  simp only[Sem.run_bind,run_underlying hm,Result.andThen,MapKept.run_getObj_map hb,gU T,iN T x y w e,hf,Option.map_none,MapKept.run_setObj_map _ hb]
 ·simp only
  rw[Array.getElem?_setIfInBounds,if_pos rfl,if_pos hl]
 ·rw[Array.toList_push,List.map_append,List.map_append,e]
  rfl
 ·simp only
  rw[Array.getElem?_setIfInBounds,if_neg (fun hh=>dZ (by simp[In,hh]))]
theorem DU{P:Program}{t:TypeId}{h:Heap}{K:Value->Heap->Prop}(HK:∀h',sS h' h.size []->Fr No h h'->h.size<h'.size->K (.map (some h.size)) h'):jQ P (Instr.makeMap t none) h K:=by
 refine⟨fun w hw=> ?_⟩
 subst hw
 refine⟨_,_,run_makeMap_plain w t,⟨rfl,rfl,rfl⟩,HK _ ⟨#[],0,?_,rfl⟩ (Fr.push w.heap _) ?_⟩
 ·show(w.heap.push _)[w.heap.size]?=_
  simp
 ·show w.heap.size<(w.heap.push _).size
  simp
def rz(eY:List ((Int×Int)×Int))(x y:Int):Option Int:=(gC eY x y).map (·.2)
theorem ig(q:(Int×Int)×Int)(r:List ((Int×Int)×Int))(x y:Int):rz (q::r) x y=if x=q.1.1/\y=q.1.2 then some q.2 else rz r x y:=by
 unfold rz
 rw[gC]
 split
 ·rfl
 ·rw[Option.map_map];rfl
theorem Gj{x y v:Int}:∀{eY:List ((Int×Int)×Int)}{j:Nat}{r:Int},gC eY x y=some (j,r)->∀u z,rz (eY.set j ((x,y),v)) u z=if u=x/\z=y then some v else rz eY u z
 |[],_,_,h=>by cases h
 |q::l,j,r,h=>fun u z=>by
  rw[gC]at h
  split at h
  ·rename_i hq
   obtain⟨rfl,_⟩:=Prod.mk.inj (Option.some.inj h)
   rw[List.set_cons_zero,ig,ig]
   (try simp only)
   by_cases hu:u=x/\z=y
   ·rw[if_pos hu,if_pos hu]
   ·rw[if_neg hu,if_neg hu,if_neg (by rw[<-hq.1,<-hq.2];exact hu)]
  ·rename_i hq
   cases hl:gC l x y with
   |none=>rw[hl]at h;cases h
   |some p=>
    rw[hl]at h
    obtain⟨p1,p2⟩:=p
    simp only[Option.map_some,Option.some.injEq,Prod.mk.injEq]at h
    obtain⟨rfl,rfl⟩:=h
    rw[List.set_cons_succ,ig,ig,Gj hl]
    by_cases hu:u=x/\z=y
    ·rw[if_pos hu,if_neg (by rw[hu.1,hu.2];exact hq),if_pos hu]
    ·rw[if_neg hu,if_neg hu]
theorem Gk{x y v:Int}:∀{eY:List ((Int×Int)×Int)},rz eY x y=none->∀u z,rz (eY++[((x,y),v)]) u z=if u=x/\z=y then some v else rz eY u z
 |[],_=>fun u z=>by
  rw[List.nil_append,ig]
 |q::l,h=>fun u z=>by
  rw[ig]at h
  split at h
  ·cases h
  ·rename_i hq
   rw[List.cons_append,ig,ig,Gk h]
   by_cases hu:u=x/\z=y
   ·rw[if_pos hu,if_neg (by rw[hu.1,hu.2];exact hq),if_pos hu]
   ·rw[if_neg hu,if_neg hu]
def zz(eY:List ((Int×Int)×Int))(A B C:Nat):Prop:=∀x y,rz eY x y=if fL x/\fL y/\A.testBit (bH x y)=true then some (ko B C (bH x y):Int)else none
theorem Kw{x y:Int}(hx:fL x)(hy:fL y):bH x y<14641:=by
 unfold bH fL at*
 omega
theorem zz.first(k:Nat):zz [] 0 (mJ (k.testBit 0)) (mJ (k.testBit 1)):=fun x y=>by
 rw[Nat.zero_testBit,if_neg (by simp)]
 rfl
theorem zz.set{eY:List ((Int×Int)×Int)}{A B C:Nat}(R:zz eY A B C){x y:Int}(hx:fL x)(hy:fL y){j:Nat}{r:Int}(hf:gC eY x y=some (j,r)):zz (eY.set j ((x,y),(((ko B C (bH x y)+1)%4:Nat):Int))) A (B^^^2^bH x y) (bif B.testBit (bH x y)then C^^^2^bH x y else C):=fun u z=>by
 rw[Gj hf,R u z]
 have hA:A.testBit (bH x y)=true:=by
  have:=R x y
  unfold rz at this
  rw[hf]at this
  by_cases hb:A.testBit (bH x y)=true
  ·exact hb
  ·rw[if_neg (fun h=>hb h.2.2)]at this;cases this
 rw[uO]
 by_cases hu:u=x/\z=y
 ·obtain⟨rfl,rfl⟩:=hu
  rw[if_pos ⟨rfl,rfl⟩,if_pos ⟨hx,hy,hA⟩,if_pos rfl]
 ·rw[if_neg hu]
  by_cases hh:fL u/\fL z/\A.testBit (bH u z)=true
  ·rw[if_pos hh,if_pos hh,if_neg (fun e=>hu (BD hh.1 hh.2.1 hx hy e))]
  ·rw[if_neg hh,if_neg hh]
def nO(k A B C:Nat):Prop:=∀i,i<14641->A.testBit i=false->ko B C i=k
theorem nO.first{k:Nat}(hk:k<4):nO k 0 (mJ (k.testBit 0)) (mJ (k.testBit 1)):=fun _ h _=>Gg hk h
theorem nO.step{k A B C i:Nat}(R:nO k A B C)(hA:A.testBit i=true):nO k A (B^^^2^i) (bif B.testBit i then C^^^2^i else C):=fun j hj h=>by
 rw[uO,if_neg (fun e=>by rw[e,hA]at h;cases h)]
 exact R j hj h
theorem nO.grow{k A B C i:Nat}(R:nO k A B C):nO k (A^^^2^i) B C\/A.testBit i=true:=by
 by_cases hA:A.testBit i=true
 ·exact .inr hA
 ·refine .inl fun j hj h=>R j hj ?_
  rw[kV]at h
  split at h
  ·rename_i e;rw[e]at h;simp[hA]at h
  ·exact h
theorem zz.new{eY:List ((Int×Int)×Int)}{A B C k:Nat}(R:zz eY A B C)(R2:nO k A B C){x y:Int}(hx:fL x)(hy:fL y)(hA:A.testBit (bH x y)=false):rz eY x y=none/\zz (eY++[((x,y),(k:Int))]) (A^^^2^bH x y) B C:=by
 have hn:rz eY x y=none:=by rw[R x y,if_neg (fun h=>by rw[hA]at h;cases h.2.2)]
 refine⟨hn,fun u z=> ?_⟩
 rw[Gk hn,R u z,kV]
 by_cases hu:u=x/\z=y
 ·obtain⟨rfl,rfl⟩:=hu
  rw[if_pos ⟨rfl,rfl⟩,if_pos ⟨hx,hy,by simp[hA]⟩,R2 _ (Kw hx hy) hA]
 ·rw[if_neg hu]
  by_cases hf:fL u/\fL z
  ·rw[if_neg (c:=bH u z=bH x y) (fun e=>hu (BD hf.1 hf.2 hx hy e))]
  ·rw[if_neg (fun h=>hf ⟨h.1,h.2.1⟩),if_neg (fun h=>hf ⟨h.1,h.2.1⟩)]
theorem sT{x y:Int}(hx:fL x)(hy:fL y):((bH x y:Nat):Int)/121-60=x/\((bH x y:Nat):Int)%121-60=y:=by
 unfold bH fL at*
 omega
def iO(l:List Nat):List Value:=(l.map fun i:Nat=>[VI ((i:Int)/121-60),VI ((i:Int)%121-60)]).flatten
theorem nF:∀l:List Nat,(iO l).length=l.length*2
 |[]=>rfl
 |i::l=>by
  have:=nF l
  unfold iO at*
  simp only[List.map_cons,List.flatten_cons,List.length_append,List.length_cons,List.length_nil,this]
  omega
theorem Gl(l:List Nat)(i:Nat):iO (l++[i])=iO l++[VI ((i:Int)/121-60),VI ((i:Int)%121-60)]:=by
 unfold iO
 rw[List.map_append,List.flatten_append]
 simp
theorem zA:∀{l:List Nat}{j:Nat}(h:j<l.length),(iO l)[j*2]?=some (VI ((l[j]:Int)/121-60))/\(iO l)[j*2+1]?=some (VI ((l[j]:Int)%121-60))
 |i::l,0,h=>⟨rfl,rfl⟩
 |i::l,j+1,h=>by
  have:=zA (l:=l) (j:=j) (by simpa using h)
  have e:iO (i::l)=VI ((i:Int)/121-60)::VI ((i:Int)%121-60)::iO l:=rfl
  rw[e,show(j+1)*2=j*2+1+1 by omega,show j*2+1+1+1=(j*2+1)+1+1 by omega]
  simp only[List.getElem?_cons_succ,List.getElem_cons_succ]
  exact this
def UD(P:Program)(kt:TypeId):Bool:=match P.underlying kt with
 |some (.struct fs)=>match fs.toList with
  |[f0,f1]=>(match P.underlying f0.type with|some (.int .i64)=>true|_=>false)&&(match P.underlying f1.type with|some (.int .i64)=>true|_=>false)&& !(f0.name== "_")&& !(f1.name== "_")&&Nat.beq f0.offset 0&&Nat.beq f1.offset 1&& !P.stoodInHeld kt
  |_=>false
 |_=>false
theorem IX{P:Program}{kt:TypeId}(h:UD P kt=true):∃f0 f1,nE P kt f0 f1:=by
 unfold UD at h
 split at h
 ·rename_i fs hu
  split at h
  ·rename_i f0 f1 hf
   simp only[Bool.and_eq_true,Bool.not_eq_true']at h
   obtain⟨⟨⟨⟨⟨⟨h1,h2⟩,h3⟩,h4⟩,h5⟩,h6⟩,h7⟩:=h
   refine⟨f0,f1,?_,?_,?_,by simpa using h3,by simpa using h4,Nat.eq_of_beq_eq_true h5,Nat.eq_of_beq_eq_true h6,h7⟩
   ·rw[hu]
    congr 2
    apply Array.ext'
    exact hf
   ·split at h1
    ·assumption
    ·cases h1
   ·split at h2
    ·assumption
    ·cases h2
  ·cases h
 ·cases h
@[reducible] def ZR:TypeId:=220
@[reducible] def aj6:TypeId:=222
@[reducible] def tCm:TypeId:=221
theorem acT:mX Tryz.prog aj6=some (ZR,2,16,[VI 0,VI 0]):=by kernel_rfl
theorem ZS:∃f0 f1,nE Tryz.prog ZR f0 f1:=IX (by kernel_rfl)
theorem ZT{x y:Int}{r:Nat}(hx:fL x)(hy:fL y)(hr:r<4){h:Heap}(K:Value->Heap->Prop)(HK:∀h',Fr No h h'->K (.agg #[VI (mvX x r),VI (mvY y r)]) h'):aE Tryz.prog 265 #[.agg #[VI x,VI y],VI r] h K:=by
 unfold fL at hx hy
 refine ahY x y r h K ⟨fun e b1 b2 h3 _ _ f3 _=> ?_,fun e=>⟨fun e2 b1 b2 h3 _ _ f3 _=> ?_,fun e2=>⟨fun e3 b1 b2 h3 _ _ f3 _=> ?_,fun e3 b1 b2 h3 _ _ f3 _=> ?_⟩⟩⟩
 ·simp only[decide_eq_true_eq]at e
  rw[aG _ (by omega) (by omega)]
  have:=HK h3 f3.aF
  rw[e]at this
  exact this
 ·simp only[decide_eq_true_eq]at e2
  rw[aG _ (by omega) (by omega)]
  have:=HK h3 f3.aF
  rw[e2]at this
  exact this
 ·simp only[decide_eq_true_eq]at e3
  rw[aG _ (by omega) (by omega)]
  have:=HK h3 f3.aF
  rw[e3]at this
  exact this
 ·simp only[decide_eq_false_iff_not]at e e2 e3
  rw[aG _ (by omega) (by omega)]
  have:=HK h3 f3.aF
  have e5:(r:Int)=3:=by omega
  rw[e5]at this
  exact this
set_option maxHeartbeats 4000000 in
theorem ZU{N k:Nat}(hN:N<=250)(hk:k<4){h:Heap}(K:Value->Heap->Prop)
 (HK:∀b1 m s st h' A B C l,eO k N=some (A,B,C,l)->Vars h' [(b1,[.map m,Sl.v s,VI st])]->Ow h' (fun q=>h.size<=q) ZR 2 s (iO l)->Fr No h h'->K (VP b1 0) h'):aE Tryz.prog 264 #[VI N,VI k,VI 4,.func (.func 265) #[] #[]] h K:=by
 obtain⟨c0,c1,CT⟩:=ZS
 have hm:Tryz.prog.underlying tCm=some (.map ZR tI):=by kernel_rfl
 have hz:oy Tryz.prog tI=some (VI 0):=by kernel_rfl
 refine ahW N k 4 _ h K (DU fun h1 M1 f1 z1=>⟨some h.size,rfl,.nil,fun b1 h2 eD f2 bW=> ?_⟩)
 have f2:=f2.aF
 have z2:=f2.size
 have l1:b1<h2.size:=bW.head.lt
 have M2:=M1.fr f2 fun h=>h
 refine⟨fun n t x1 x2 x3 h'=>∃(j A B C:Nat)(l:List Nat)(eY:List ((Int×Int)×Int)),t=j/\n+j=N/\eO k j=some (A,B,C,l)/\x1=some h.size/\sS h' h.size eY/\zz eY A B C/\nO k A B C/\Ow h' (fun q=>h.size<q/\q≠b1) ZR 2 x2 (iO l)/\Fr (fun q=>h.size<=q) h h',
  ⟨N,0,_,_,_,_,[],rfl,by omega,rfl,rfl,M2,zz.first k,nO.first hk,Ow.nil _ _ _ _,(f1.aA f2).aB⟩,?_⟩
 rintro n t _ x2 x3 h3 ⟨j,A,B,C,l,eY,rfl,hn,hc,rfl,M3,R3,T3,O3,F3⟩ cF
 have z3:=F3.size
 have l3:b1<h3.size:=cF.head.lt
 have ll:=hJ hc
 refine⟨fun e=> ?_,fun e=> ?_⟩
 ·simp only[decide_eq_true_eq]at e
  intro b2 h5 dK f5 gh
  have f5:=f5.aF
  have z5:=f5.size
  obtain⟨A',B',C',l',P1⟩:=lz (k:=k) (n:=j+1) hk (by omega)
  obtain⟨i9,hw,rfl,rfl⟩:=lA hc P1
  have hM:sS h5 h.size eY:=M3.fr f5 fun h=>h
  refine⟨fun m x y x6 x7 x8 h'=>∃(B2 C2:Nat)(eY:List ((Int×Int)×Int)),nN m A B2 C2 (bH x y)=some (i9,B',C')/\fL x/\fL y/\x6=some h.size/\x7=x2/\sS h' h.size eY/\zz eY A B2 C2/\nO k A B2 C2/\Ow h' (fun q=>h.size<q/\q≠b1) ZR 2 x2 (iO l)/\b2<h'.size/\Fr (fun q=>h.size<=q) h h',
   ⟨1000,B,C,eY,hw,by decide,by decide,rfl,rfl,hM,R3,T3,Ow.no O3 f5,gh.head.lt,F3.trans f5.aB⟩,?_⟩
  rintro m x y _ x7 x8 h6 ⟨B2,C2,Ty,hw2,hx,hy,rfl,rfl,M6,R6,T6,O6,l6,F6⟩ jG
  have v6:=R6 x y
  have Tz:∀{X Y:Heap},Fr (In [h.size]) X Y->∀p,p∈[(b2,[VI x,VI y]),(b1,[Value.map (some h.size),x7.v,VI x8])]->¬In [h.size] p.1:=fun _ p hp hk=>by
   simp only[In,List.mem_singleton]at hk
   simp only[List.mem_cons,List.not_mem_nil,or_false]at hp
   rcases hp with rfl|rfl
   ·simp only at hk;omega
   ·simp only at hk;omega
  have z6:=F6.size
  refine Gi CT hm hz M6 ⟨_,_,rfl,fun e2=> ?_,fun e2=> ?_⟩
  ·have hf:gC Ty x y=none:=by simpa using e2
   have hA:A.testBit (bH x y)=false:=by
    unfold rz at v6
    rw[hf]at v6
    cases hb:A.testBit (bH x y)with
    |false=>rfl
    |true=>rw[if_pos ⟨hx,hy,hb⟩]at v6;cases v6
   have hR:=uP hw2 hA
   simp only[Prod.mk.injEq]at hR
   obtain⟨rfl,rfl,rfl⟩:=hR
   obtain⟨_,R7⟩:=R6.new T6 hx hy hA
   refine PA CT hm M6 hf fun u h7 M7 f7=>⟨jG.fr f7 (Tz f7),?_⟩
   have z7:=f7.size
   have jv:=jG.fr f7 (Tz f7)
   have O7:=Ow.fr O6 f7 fun q hq gI=>by have:=(O6.aH hq).1.1;simp only[In,List.mem_singleton]at gI;omega
   refine aP acT (fun q=>h7.size<=q) (fun _ h=>h) 1 (by omega) [VI x,VI y] rfl rfl fun s h8 n8 c8 o8 f8 m8 _=>⟨s,rfl,jv.aB f8,?_⟩
   have z8:=f8.size
   have l7:b1<h8.size:=(jv.aB f8).tail.head.lt
   have sl:x7.n=l.length:=by have:=O7.rd.len;rw[nF]at this;omega
   refine bL acT (Ow.no O7 f8) (fun q hq=>⟨by omega,by omega⟩) o8.rd rfl (by omega) fun t9 h9 n9 o9 f9 w9=> ?_
   have aj7:∀p,p∈[(b2,[VI x,VI y]),(b1,[Value.map (some h.size),x7.v,VI x8])]->¬x7.own p.1:=fun p hp hk=>by
    simp only[List.mem_cons,List.not_mem_nil,or_false]at hp
    rcases hp with rfl|rfl
    ·have:=(O3.aH hk).2;simp only at this;omega
    ·exact(O7.aH hk).1.2 rfl
   refine⟨t9,rfl,(jv.aB f8).fr f9 aj7,fun dV f10 dL=> ?_⟩
   have z9:=f9.size
   have mo:∀{q:Nat},In [b1] q->h.size<q:=fun hq=>by simp only[In,List.mem_singleton]at hq;omega
   have M10:=((M7.fr f8 fun h=>h).fr f9 fun hq=>by have:=(O7.aH hq).1.1;omega).fr f10 fun hq=>by have:=mo hq;omega
   refine⟨n-1,by omega,j+1,_,_,_,_,_,?_,by omega,P1,rfl,M10,R7,?_,?_,?_⟩
   ·rw[aG _ (by omega) (by omega)];omega
   ·rcases T6.grow (i:=bH x y)with hh|hh
    ·exact hh
    ·rw[hA]at hh;cases hh
   ·rw[Gl,(sT hx hy).1,(sT hx hy).2]
    exact Ow.fr o9 f10 fun q hq gI=>by simp only[In,List.mem_singleton]at gI;exact(o9.aH hq).1.2 gI
   ·refine(((F6.trans (f7.mono fun q _ hq=>by simp only[In,List.mem_singleton]at hq;omega)).trans f8.aB).trans (f9.mono fun q _ hq=>by have:=(O7.aH hq).1.1;omega)).trans (f10.mono fun q _ hq=>by have:=mo hq;omega)
  ·obtain⟨p,hf⟩:∃p,gC Ty x y=some p:=by
    cases hf:gC Ty x y with
    |none=>rw[hf]at e2;cases e2
    |some p=>exact⟨p,rfl⟩
   obtain⟨jj,rr⟩:=p
   have hA:A.testBit (bH x y)=true:=by
    unfold rz at v6
    rw[hf]at v6
    cases hb:A.testBit (bH x y)with
    |true=>rfl
    |false=>rw[if_neg (fun h=>by rw[hb]at h;cases h.2.2)]at v6;cases v6
   have hrr:rr=(ko B2 C2 (bH x y):Int):=by
    unfold rz at v6
    rw[hf,if_pos ⟨hx,hy,hA⟩]at v6
    exact Option.some.inj v6
   subst hrr
   obtain⟨hi,m',rfl,hw3⟩:=ry hw2 hA
   have tf:=Kv B2 C2 (bH x y)
   have et:Int.tmod (aL (((Option.map (fun p:Nat×Int=>p.2) (gC Ty x y)).getD 0)+1)) 4=(((ko B2 C2 (bH x y)+1)%4:Nat):Int):=by
    rw[hf]
    simp only[Option.map_some,Option.getD_some]
    rw[aG _ (by omega) (by omega),Int.tmod_eq_emod_of_nonneg (by omega)]
    omega
   rw[et]
   obtain⟨g1,g2,g3⟩:=Gh (r:=(ko B2 C2 (bH x y)+1)%4) hx hy rfl hi (by omega)
   refine⟨by omega,Pz CT hm M6 hf fun u h7 M7 f7=>⟨jG.fr f7 (Tz f7),?_⟩⟩
   have z7:=f7.size
   have jv:=jG.fr f7 (Tz f7)
   have O7:=Ow.fr O6 f7 fun q hq gI=>by have:=(O6.aH hq).1.1;simp only[In,List.mem_singleton]at gI;omega
   refine ZT hx hy (by omega) _ fun h8 f8=>⟨_,_,rfl,jv.aB f8,fun dV f10 dL=>⟨m',by omega,_,_,_,by rw[g3];exact hw3,g1,g2,rfl,rfl,?_,R6.set hx hy hf,T6.step hA,?_,dL.head.lt,?_⟩⟩
   ·exact(M7.fr f8 fun h=>h).fr f10 fun hq=>by simp only[In,List.mem_cons,List.not_mem_nil,or_false]at hq;omega
   ·refine Ow.fr (Ow.no O7 f8) f10 fun q hq gI=> ?_
    simp only[In,List.mem_cons,List.not_mem_nil,or_false]at gI
    have h1:=(O3.aH hq)
    rcases gI with rfl|rfl
    ·exact h1.1.2 rfl
    ·have:=h1.2;omega
   ·exact((F6.trans (f7.mono fun q _ hq=>by simp only[In,List.mem_singleton]at hq;omega)).trans f8.aB).trans (f10.mono fun q _ hq=>by simp only[In,List.mem_cons,List.not_mem_nil,or_false]at hq;omega)
 ·simp only[decide_eq_false_iff_not]at e
  have:j=N:=by omega
  subst this
  exact HK b1 _ x2 x3 h3 A B C l hc cF (O3.mono fun q _ hq=>by omega) (F3.mono fun q hq gI=>absurd gI (by omega))
theorem TA{h:Heap}(n k:Int)(K:Value->Heap->Prop)(HN:¬(0<=n/\n<=250/\0<=k/\k<=3)->K (.tuple #[.pointer none,VB false]) h)
 (HY:0<=n/\n<=250/\0<=k/\k<=3->∀b1 m s st h' A B C l,eO k.toNat n.toNat=some (A,B,C,l)->Vars h' [(b1,[.map m,Sl.v s,VI st])]->Ow h' (fun q=>h.size<=q) ZR 2 s (iO l)->Fr No h h'->K (.tuple #[VP b1 0,VB true]) h'):aE Tryz.prog 220 #[VI n,VI k] h K:=by
 refine aha n k h K (eJ _ _ _ h _ ⟨_,rfl,.nil,fun e=>HN fun hh=> ?_,fun e=> ?_⟩)
 ·simp at e;omega
 have e:0<=n/\n<=250:=by simpa using e
 refine eJ _ _ _ h _ ⟨_,rfl,.nil,fun e2=>HN fun hh=> ?_,fun e2=> ?_⟩
 ·simp at e2;omega
 have e2:0<=k/\k<=3:=by simpa using e2
 replace HY:=HY ⟨e.1,e.2,e2⟩
 obtain⟨N,rfl⟩:∃N:Nat,n=N:=⟨n.toNat,by omega⟩
 obtain⟨k,rfl⟩:∃k':Nat,k=k':=⟨k.toNat,by omega⟩
 refine ZU (by omega) (by omega) _ fun b1 m s st h' A B C l hc V O f=>⟨some ⟨b1,0,none⟩,rfl,.nil,HY b1 m s st h' A B C l hc V O f⟩
theorem BE{N k A B C:Nat}{l:List Nat}(hN:1<=N/\N<=250)(hk:k<4)(hc:eO k N=some (A,B,C,l)):∃h:N-1<l.length,pz N k=([((l[N-1]:Nat):Int)/121-60,((l[N-1]:Nat):Int)%121-60],true):=by
 have ll:=hJ hc
 refine⟨by omega,?_⟩
 unfold pz
 rw[if_pos (by omega),Int.toNat_natCast,Int.toNat_natCast,hc]
 have:l.getLastD 0=l[N-1]'(by omega):=by
  have e1:l.getLast?=some (l[N-1]'(by omega)):=by
   rw[List.getLast?_eq_getElem?,show l.length-1=N-1 by omega]
   exact List.getElem?_eq_getElem _
  rw[List.getLastD_eq_getLast?,e1]
  rfl
 simp only[this]
theorem DV{h:Heap}(n k:Int)(K:Value->Heap->Prop)(HK:∀t h',bR h' (fun q=>h.size<=q) t (pz n k).1->Fr No h h'->K (.tuple #[t.v,VB (pz n k).2]) h'):aE Tryz.prog 170 #[VI n,VI k] h K:=by
 have no:¬(1<=n/\n<=250/\0<=k/\k<=3)->∀h',Fr No h h'->K (.tuple #[aC.v,VB false]) h':=fun hn h' f=>by
  unfold pz at HK
  rw[if_neg hn]at HK
  exact HK aC h' (Ow.nil _ _ _ _) f
 refine af0 n k h K (TA n k _ (fun hn=>⟨none,false,rfl,.nil,fun _=>no (fun h=>hn (by omega)) h (Fr.refl _ _),fun e=>by cases e⟩) fun hy b1 m s st h1 A B C l hc V O f1=>⟨some ⟨b1,0,none⟩,true,rfl,.nil,fun e=>(by cases e),fun _=>⟨fun e=> ?_,fun e=> ?_⟩⟩)
 ·simp only[decide_eq_true_eq]at e
  exact no (by omega) h1 f1
 ·simp only[decide_eq_false_iff_not]at e
  obtain⟨N,rfl⟩:∃N:Nat,n=N:=⟨n.toNat,by omega⟩
  obtain⟨k,rfl⟩:∃k':Nat,k=k':=⟨k.toNat,by omega⟩
  rw[Int.toNat_natCast,Int.toNat_natCast]at hc
  obtain⟨hl,eg⟩:=BE (by omega) (by omega) hc
  have sl:s.n=l.length:=by have:=O.rd.len;rw[nF]at this;omega
  have ll:=hJ hc
  rw[aG _ (by omega) (by omega)]
  have ei:(((N:Int)-1)).toNat=N-1:=by omega
  rw[eg]at HK
  obtain⟨q1,q2⟩:=zA hl
  have z1:=f1.size
  refine⟨b1,m,s,st,rfl,V,O.bB (by omega) (by omega),((l[N-1]:Nat):Int)/121-60,((l[N-1]:Nat):Int)%121-60,?_,fun b2 h3 dK f3 cF=> ?_⟩
  ·obtain⟨g,o,j3,ha,_,_,QN,_⟩:=O.BX (i:=(N:Int)-1) (by omega) (by omega)
   have cl:=nF l
   have cell:∀j v,(iO l)[j]?=some v->aR h1 (⟨g,o+j,none⟩:Addr)=some v:=fun j v hv=>by
    obtain⟨hj,e1⟩:=List.getElem?_eq_some_iff.1 hv
    obtain⟨a,h1,_,h2⟩:=O.rd.cell j hj
    rw[ha]at h1
    have h1:=Option.some.inj h1
    subst h1
    rw[gw]at h2
    rw[h2,e1]
   intro j hj
   rw[QN,ei,gw,Nat.add_assoc]
   rcases(by simp at hj;omega:j=0\/j=1)with rfl|rfl
   ·exact cell _ _ q1
   ·exact cell _ _ q2
  ·refine aP fx (fun q=>h3.size<=q) (fun _ h=>h) 2 (by omega) [VI (((l[N-1]:Nat):Int)/121-60),VI (((l[N-1]:Nat):Int)%121-60)] rfl rfl fun t h4 n4 c4 o4 f4 m4 _=>⟨t,rfl,cF.aB f4,?_⟩
   have z3:=f3.aF.size
   exact HK t h4 (by show Ow _ _ _ _ _ _;exact o4.mono fun q _ hq=>by omega) ((f1.aA f3.aF).aA f4)
theorem IY{x y:Int}(hx:fL x)(hy:fL y){h:Heap}(K:Value->Heap->Prop)(HK:K (VI (bH x y:Nat)) h):aE Tryz.prog 241 #[VI x,VI y] h K:=by
 refine ahA x y h K ?_
 unfold abl pk
 unfold fL at hx hy
 rw[aG (x+60) (by omega) (by omega),aG ((x+60)*121) (by omega) (by omega),aG ((x+60)*121+y) (by omega) (by omega),aG _ (by omega) (by omega)]
 have e:((bH x y:Nat):Int)=(x+60)*121+y+60:=by unfold bH;omega
 rw[<-e]
 exact HK
theorem PB{x y:Int}{r:Nat}(hx:fL x)(hy:fL y)(hr:r<4){h:Heap}(K:Value->Heap->Prop)(HK:K (.tuple #[VI (mvX x r),VI (mvY y r)]) h):aE Tryz.prog 242 #[VI x,VI y,VI r] h K:=by
 unfold fL at hx hy
 refine ahC x y r h K ⟨fun e=> ?_,fun e=>⟨fun e2=> ?_,fun e2=>⟨fun e3=> ?_,fun e3=> ?_⟩⟩⟩
 ·simp only[decide_eq_true_eq]at e
  rw[aG _ (by omega) (by omega)]
  rw[e]at HK
  exact HK
 ·simp only[decide_eq_true_eq]at e2
  rw[aG _ (by omega) (by omega)]
  rw[e2]at HK
  exact HK
 ·simp only[decide_eq_true_eq]at e3
  rw[aG _ (by omega) (by omega)]
  rw[e3]at HK
  exact HK
 ·simp only[decide_eq_false_iff_not]at e e2 e3
  rw[aG _ (by omega) (by omega)]
  have e5:(r:Int)=3:=by omega
  rw[e5]at HK
  exact HK
def nP(l:List Nat):List (List Int):=l.map fun i:Nat=>[(i:Int)/121-60,(i:Int)%121-60]
theorem IZ(l:List Nat)(i:Nat):nP (l++[i])=nP l++[[(i:Int)/121-60,(i:Int)%121-60]]:=by simp[nP]
def GrL(gl:List Bool)(A:Nat):Prop:=gl.length=14641/\∀j,j<14641->gl.getD j false=A.testBit j
def RoL(rl:List Int)(B C:Nat):Prop:=rl.length=14641/\∀j,j<14641->rl.getD j 0=(ko B C j:Int)
theorem uQ{α:Type}{l:List α}{i j:Nat}{v d:α}(hi:i<l.length):(l.set i v).getD j d=if j=i then v else l.getD j d:=by
 rw[List.getD_eq_getElem?_getD,List.getD_eq_getElem?_getD,List.getElem?_set]
 by_cases h:i=j
 ·subst h;rw[if_pos rfl,if_pos hi,if_pos rfl,Option.getD_some]
 ·rw[if_neg h,if_neg (fun e=>h e.symm)]
theorem GrL.grow{gl:List Bool}{A i:Nat}(G:GrL gl A)(hi:i<14641)(hA:A.testBit i=false):GrL (gl.set i true) (A^^^2^i):=⟨by rw[List.length_set];exact G.1,fun j hj=>by
 rw[uQ (by rw[G.1];exact hi),kV]
 by_cases h:j=i
 ·subst h;rw[if_pos rfl,if_pos rfl,hA];rfl
 ·rw[if_neg h,if_neg h];exact G.2 j hj⟩
theorem RoL.turn{rl:List Int}{B C i:Nat}(R:RoL rl B C)(hi:i<14641):RoL (rl.set i (((ko B C i+1)%4:Nat):Int)) (B^^^2^i) (bif B.testBit i then C^^^2^i else C):=⟨by rw[List.length_set];exact R.1,fun j hj=>by
 rw[uQ (by rw[R.1];exact hi),uO]
 by_cases h:j=i
 ·rw[if_pos h,if_pos h]
 ·rw[if_neg h,if_neg h];exact R.2 j hj⟩
theorem Gm{h:Heap}{n:Int}{m:Nat}(e:n=m)(hm:m<=100000){K:Value->Heap->Prop}(HK:∀x h',Ow h' (fun k=>h.size<=k) tB 1 x ((List.replicate m false).map VB)->Fr No h h'->K x.v h'):jQ Tryz.prog (Instr.makeSlice tBs (VI n) (VI n)) h K:=by
 subst e
 refine eA rBs (fun k=>_<=k) (fun _ h=>h) .i64 .i64 m m (Nat.le_refl _) (by omega) fun t h2 n2 c2 o2 f2 m2 _=>HK t h2 ?_ f2
 have e:(List.replicate m [VB false]).flatten=(List.replicate m false).map VB:=by simp[List.flatten_replicate_singleton]
 rw[e]at o2;exact o2
set_option maxHeartbeats 8000000 in
theorem ZV{N k:Nat}(hN:N<=250)(hk:k<4){h:Heap}(K:Value->Heap->Prop)
 (HK:∀b1 x1 x2 x3 st h' A B C l,eO k N=some (A,B,C,l)->Vars h' [(b1,[Sl.v x1,Sl.v x2,Sl.v x3,VI st])]->gO h' (fun q=>h.size<=q) x3 (nP l)->Fr No h h'->K (VP b1 0) h'):aE Tryz.prog 193 #[VI N,VI k] h K:=by
 refine v193 N k h K ⟨fun b1 x1 x2 x3 x4 h'=>x3=aC/\Ow h' (fun q=>h.size<=q/\q<b1) tB 1 x1 ((List.replicate 14641 false).map VB)/\bR h' (fun q=>h.size<=q/\q<b1) x2 (List.replicate 14641 0)/\Dj x1 x2/\Fr No h h'/\h.size<=b1,?_,?_⟩
 ·refine⟨Gm (m:=14641) rfl (by omega) fun g h1 o1 f1=>⟨g,rfl,.nil,iM (m:=14641) rfl (by omega) fun r h2 o2 f2=>⟨r,rfl,.nil,fun b1 h3 hb f3 hL=> ?_⟩⟩,iM (m:=14641) rfl (by omega) fun r h1 o1 f1=>⟨r,rfl,.nil,Gm (m:=14641) rfl (by omega) fun g h2 o2 f2=>⟨g,rfl,.nil,fun b1 h3 hb f3 hL=> ?_⟩⟩⟩
  ·have f3:=f3.aF
   have z1:=f1.size
   have z2:=f2.size
   refine⟨rfl,(Ow.no (Ow.no o1 f2) f3).mono fun q hq _=>⟨(o1.aH hq).1,by have:=(o1.aH hq).2;omega⟩,(Ow.no o2 f3).mono fun q hq _=>⟨by have:=(o2.aH hq).1;omega,by have:=(o2.aH hq).2;omega⟩,fun q hq gI=>by have:=(o1.aH hq).2;have:=(o2.aH gI).1;omega,(f1.aA f2).aA f3,by omega⟩
  ·have f3:=f3.aF
   have z1:=f1.size
   have z2:=f2.size
   refine⟨rfl,(Ow.no o2 f3).mono fun q hq _=>⟨by have:=(o2.aH hq).1;omega,by have:=(o2.aH hq).2;omega⟩,(Ow.no (Ow.no o1 f2) f3).mono fun q hq _=>⟨(o1.aH hq).1,by have:=(o1.aH hq).2;omega⟩,fun q hq gI=>by have:=(o2.aH hq).1;have:=(o1.aH gI).2;omega,(f1.aA f2).aA f3,by omega⟩
 rintro b1 g r _ x4 h7 ⟨rfl,G7,R7,dj,F7,hb⟩ jv
 have rn:r.n=14641:=by have:=R7.rd.len;rw[List.length_map,List.length_replicate]at this;omega
 have gb:¬g.own b1:=fun hk=>by have:=(G7.aH hk).1.2;omega
 have rb:¬r.own b1:=fun hk=>by have:=(R7.aH hk).1.2;omega
 have lb7:=jv.head.lt
 refine⟨fun m i h'=>∃rl:List Int,0<=i/\i+m=14641/\rl.length=14641/\(∀j,j<i.toNat->rl.getD j 0=(k:Int))/\bR h' (fun q=>h.size<=q/\q<b1) r rl/\Ow h' (fun q=>h.size<=q/\q<b1) tB 1 g ((List.replicate 14641 false).map VB)/\Fr (fun q=>h.size<=q) h h',⟨14641,_,by omega,by omega,List.length_replicate,fun j hj=>absurd hj (by simp),R7,G7,F7.aB⟩,?_⟩
 rintro m i h8 ⟨rl,i0,i1,i2,i3,R8,G8,F8⟩ fO
 refine⟨fun e=> ?_,fun e=> ?_⟩
 ·simp only[decide_eq_true_eq]at e
  obtain⟨w1,w2,w3⟩:=R8.eX i0 e (VI k)
  refine⟨R8.bB i0 e,w1,gH fO w3 rb,fun h9 e9 fP=>⟨m-1,by omega,rl.set i.toNat k,?_,?_,by rw[List.length_set];exact i2,fun j hj=> ?_,?_,?_,?_⟩⟩
  ·rw[aG _ (by omega) (by omega)];omega
  ·rw[aG _ (by omega) (by omega)];omega
  ·rw[aG _ (by omega) (by omega)]at hj
   rw[uQ (by omega)]
   split
   ·rfl
   ·exact i3 j (by omega)
  ·subst e9;show Ow _ _ _ _ _ _;rw[List.map_set];exact w2
  ·subst e9;exact Ow.fr G8 w3 fun q hq gI=>dj q hq gI
  ·subst e9;exact F8.trans (w3.mono fun q _ hq=>(R8.aH hq).1.1)
 simp only[decide_eq_false_iff_not]at e
 have hR0:RoL rl (mJ (k.testBit 0)) (mJ (k.testBit 1)):=⟨i2,fun j hj=>by rw[i3 j (by omega),Gg hk hj]⟩
 have hG0:GrL (List.replicate 14641 false) 0:=⟨List.length_replicate,fun j hj=>by rw[Nat.zero_testBit,List.getD_eq_getElem?_getD,List.getElem?_replicate];split<;>rfl⟩
 refine⟨fun n n0 y5 y6 y7 y8 h'=>∃(j A B C:Nat)(l:List Nat)(gl:List Bool)(rl:List Int),n0=(N:Int)-j/\n+j=N/\eO k j=some (A,B,C,l)/\y5=g/\y6=r/\GrL gl A/\RoL rl B C/\bR h' (fun q=>h.size<=q/\q<b1) r rl/\Ow h' (fun q=>h.size<=q/\q<b1) tB 1 g (gl.map VB)/\gO h' (fun q=>b1+1<=q) y7 (nP l)/\Fr (fun q=>h.size<=q) h h',
  ⟨N,0,0,mJ (k.testBit 0),mJ (k.testBit 1),[],_,_,(Int.sub_zero _).symm,Nat.add_zero _,rfl,rfl,rfl,hG0,hR0,R8,G8,dR.nil _ _ _ _,F8⟩,?_⟩
 rintro n _ y5 y6 y7 y8 dV ⟨j,A,B,C,l,gl,rl,rfl,hn,hc,rfl,rfl,hG,hR,R10,GJ,X10,nV⟩ dL
 have ll:=hJ hc
 refine⟨fun e2=> ?_,fun e2=> ?_⟩
 ·simp only[decide_eq_true_eq]at e2
  obtain⟨A',B',C',l',P1⟩:=lz (k:=k) (n:=j+1) hk (by omega)
  obtain⟨i9,hw,rfl,rfl⟩:=lA hc P1
  refine⟨fun m x y z9 zV Rj z12 h'=>∃(B2 C2:Nat)(rl:List Int),nN m A B2 C2 (bH x y)=some (i9,B',C')/\fL x/\fL y/\z9=y5/\zV=y6/\Rj=y7/\RoL rl B2 C2/\bR h' (fun q=>h.size<=q/\q<b1) y6 rl/\Ow h' (fun q=>h.size<=q/\q<b1) tB 1 y5 (gl.map VB)/\gO h' (fun q=>b1+1<=q) y7 (nP l)/\Fr (fun q=>h.size<=q) h h',
   ⟨1000,B,C,rl,hw,by decide,by decide,rfl,rfl,rfl,hR,R10,GJ,X10,nV⟩,?_⟩
  rintro m x y z9 zV Rj z12 hH ⟨B2,C2,rl2,hw2,hx,hy,rfl,rfl,rfl,hR2,RL,TB,X11,F11⟩ iu
  have hi:=Kw hx hy
  have apq:=F11.size
  have apr:=iu.head.lt
  have gR:=TB.rd
  have gi:((bH x y:Nat):Int)<((gl.length:Nat):Int):=by rw[hG.1];omega
  have cg:=aim gR (i:=(bH x y:Nat)) (by omega) gi
  have egl:gl[((bH x y:Nat):Int).toNat]'(by rw[hG.1];omega)=A.testBit (bH x y):=by
   have:=hG.2 _ hi
   rw[List.getD_eq_getElem?_getD,List.getElem?_eq_getElem (by rw[hG.1];exact hi),Option.getD_some]at this
   exact this
  rw[egl]at cg
  have acX:dQ z9 ((bH x y:Nat):Int):=cM.bB gR (by omega) (by rw[List.length_map];exact gi)
  refine IY hx hy _ ⟨_,rfl,iu,acX,_,cg,fun e3=> ?_,fun e3=> ?_⟩
  ·obtain⟨Vb,m',rfl,hw3⟩:=ry hw2 e3
   have tf:=Kv B2 C2 (bH x y)
   have rR:aQ zV.own hH zV rl2:=RL.rd
   have ri:((bH x y:Nat):Int)<(rl2.length:Int):=by rw[hR2.1];omega
   have cr:=rR.get (i:=(bH x y:Nat)) (by omega) ri
   have erl:rl2[((bH x y:Nat):Int).toNat]'(by rw[hR2.1];omega)=(ko B2 C2 (bH x y):Int):=by
    have:=hR2.2 _ hi
    rw[List.getD_eq_getElem?_getD,List.getElem?_eq_getElem (by rw[hR2.1];exact hi),Option.getD_some]at this
    exact this
   rw[erl]at cr
   have et:Int.tmod (aL ((ko B2 C2 (bH x y):Int)+1)) 4=(((ko B2 C2 (bH x y)+1)%4:Nat):Int):=by
    rw[aG _ (by omega) (by omega),Int.tmod_eq_emod_of_nonneg (by omega)]
    omega
   have rnb:dQ zV ((bH x y:Nat):Int):=rR.bB (by omega) ri
   have rn2:zV.n=rl2.length:=by have:=rR.len;exact this
   obtain⟨w1,w2,w3⟩:=RL.eX (i:=(bH x y:Nat)) (by omega) (by omega) (VI (((ko B2 C2 (bH x y)+1)%4:Nat):Int))
   refine IY hx hy _ ⟨_,rfl,iu,rnb,_,cr,rnb,?_⟩
   rw[et]
   refine⟨w1,gH iu w3 rb,fun LG e14 LH=> ?_⟩
   subst e14
   rw[<-List.map_set,Int.toNat_natCast]at w2
   have Uu:bR _ (fun q=>h.size<=q/\q<b1) zV (rl2.set (bH x y) (((ko B2 C2 (bH x y)+1)%4:Nat):Int)):=w2
   have acY:aQ zV.own _ zV _:=Uu.rd
   have acZ:=acY.get (i:=(bH x y:Nat)) (by omega) (by rw[List.length_set];exact ri)
   simp only[Int.toNat_natCast,List.getElem_set_self]at acZ
   obtain⟨g1,g2,g3⟩:=Gh (r:=(ko B2 C2 (bH x y)+1)%4) hx hy rfl Vb (by omega)
   refine⟨acY.bB (by omega) (by rw[List.length_set];exact ri),_,acZ,PB hx hy (by omega) _ ⟨_,_,rfl,LH,fun Wp f16 IL=> ?_⟩⟩
   have TC:∀{q:Nat},In [b1] q->q=b1:=fun hq=>by simpa[In]using hq
   refine⟨m',by omega,_,_,_,by rw[g3];exact hw3,g1,g2,rfl,rfl,rfl,hR2.turn hi,?_,?_,?_,?_⟩
   ·exact Ow.fr Uu f16 fun q hq gI=>rb (TC gI▸hq)
   ·exact Ow.fr (Ow.fr TB w3 fun q hq gI=>dj q hq gI) f16 fun q hq gI=>gb (TC gI▸hq)
   ·exact(X11.fr w3 fun q _ hq gI=>by have:=(RL.aH gI).1.2;omega).fr f16 fun q _ hq gI=>by have:=TC gI;omega
   ·exact(F11.trans (w3.mono fun q _ hq=>(RL.aH hq).1.1)).trans (f16.mono fun q _ hq=>by have:=TC hq;omega)
  ·have hE:=uP hw2 e3
   simp only[Prod.mk.injEq]at hE
   obtain⟨rfl,rfl,rfl⟩:=hE
   obtain⟨w1,w2,w3⟩:=TB.eX (i:=(bH x y:Nat)) (by omega) (by have:=ain gR;omega) (VB true)
   refine IY hx hy _ ⟨_,rfl,iu,acX,w1,gH iu w3 gb,fun h18 e18 ac0=> ?_⟩
   subst e18
   rw[<-List.map_set,Int.toNat_natCast]at w2
   have X18:=X11.fr w3 fun q _ hq gI=>by have:=(TB.aH gI).1.2;omega
   have z18:=w3.size
   refine aP fx (fun q=>_<=q) (fun _ h=>h) 2 (by omega) [VI x,VI y] rfl rfl fun s LI n19 c19 o19 f19 m19 _=>⟨s,rfl,ac0.aB f19,?_⟩
   have z19:=f19.size
   have X19:gO LI (Iv (b1+1) (Mx.cK hH (z9.at ((bH x y:Nat):Int) 1) (VB true)).size) Rj (nP l):=(X18.mono fun q hq gI=>⟨gI,hq⟩).no f19
   refine jJ (ys:=[x,y]) X19 (by show Ow _ _ _ _ _ _;exact o19) (by omega) z19 (ac0.aB f19) (fun p hp=>by simp only[List.mem_singleton]at hp;subst hp;exact Nat.lt_succ_self _) (by simp[nP];omega) _ fun t h21 X21 f21 apA=> ?_
   have z21:=f21.size
   intro GH f22 apB
   have TC:∀{q:Nat},In [b1] q->q=b1:=fun hq=>by simpa[In]using hq
   refine⟨n-1,by omega,j+1,_,_,_,_,_,_,?_,by omega,P1,rfl,rfl,hG.grow hi e3,hR2,?_,?_,?_,?_⟩
   ·rw[aG _ (by omega) (by omega)];omega
   ·exact Ow.fr (Ow.fr (Ow.no (Ow.fr RL w3 fun q hq gI=>dj q gI hq) f19) f21 fun q hq gI=>by have:=(RL.aH hq).1.2;omega) f22 fun q hq gI=>rb (TC gI▸hq)
   ·exact Ow.fr (Ow.fr (Ow.no w2 f19) f21 fun q hq gI=>by have:=(TB.aH hq).1.2;omega) f22 fun q hq gI=>gb (TC gI▸hq)
   ·rw[IZ,(sT hx hy).1,(sT hx hy).2]
    exact X21.fr f22 fun q _ hq gI=>by have:=TC gI;omega
   ·exact(((F11.trans (w3.mono fun q _ hq=>(TB.aH hq).1.1)).trans f19.aB).trans (f21.mono fun q _ hq=>by omega)).trans (f22.mono fun q _ hq=>by have:=TC hq;omega)
 ·simp only[decide_eq_false_iff_not]at e2
  have:j=N:=by omega
  subst this
  exact HK b1 y5 y6 y7 y8 dV A B C l hc dL (X10.mono fun q _ hq=>by omega) (nV.mono fun q hq gI=>absurd gI (by omega))
theorem L2{h:Heap}(n k:Int)(K:Value->Heap->Prop)(HK:K (VB (decide (0<=n/\n<=250/\0<=k/\k<=3))) h):aE Tryz.prog 192 #[VI n,VI k] h K:=by
 refine agB n k h K (cY _ _ _ h _ ⟨_,rfl,.nil,fun e=>cY _ _ _ h _ ⟨_,rfl,.nil,?_⟩,fun e=> ?_⟩)
 ·have e:0<=n/\n<=250:=by simpa using e
  have:(decide (0<=k)&&decide (k<=3))=decide (0<=n/\n<=250/\0<=k/\k<=3):=by
   rw[<-Bool.decide_and]
   exact decide_eq_decide.2 ⟨fun h=>⟨e.1,e.2,h⟩,fun h=>h.2.2⟩
  rw[this]
  exact HK
 ·rw[decide_eq_false (fun h=>by simp at e;omega)]at HK
  exact HK
theorem sU{h:Heap}(n k:Int)(K:Value->Heap->Prop)(HK:∀t h',aQ (fun _=>True) h' t (pz n k).1->Fr No h h'->K (.tuple #[t.v,VB (pz n k).2]) h'):aE Tryz.prog 142 #[VI n,VI k] h K:=by
 have no:¬(1<=n/\n<=250/\0<=k/\k<=3)->∀h',Fr No h h'->K (.tuple #[aC.v,VB false]) h':=fun hn h' f=>by
  unfold pz at HK
  rw[if_neg hn]at HK
  exact HK aC h' (cM.nil _ _ _) f
 refine afw n k h K (L2 n k _ ⟨_,rfl,.nil,fun e=>no (by simp at e;omega) h (Fr.refl _ _),fun e=>⟨fun e2=> ?_,fun e2=> ?_⟩⟩)
 ·simp only[decide_eq_true_eq]at e2
  exact no (by omega) h (Fr.refl _ _)
 have e:0<=n/\n<=250/\0<=k/\k<=3:=by simpa using e
 simp only[decide_eq_false_iff_not]at e2
 obtain⟨N,rfl⟩:∃N:Nat,n=N:=⟨n.toNat,by omega⟩
 obtain⟨k,rfl⟩:∃k':Nat,k=k':=⟨k.toNat,by omega⟩
 refine ZV (by omega) (by omega) _ fun b1 x1 x2 x3 st h' A B C l hc V X f=>⟨some ⟨b1,0,none⟩,rfl,.nil,b1,x1,x2,x3,st,rfl,V,?_⟩
 obtain⟨hl,eg⟩:=BE (by omega) (by omega) hc
 have ll:=hJ hc
 have Rd:=X.rd
 have rl:(nP l).length=l.length:=by simp[nP]
 rw[aG _ (by omega) (by omega)]
 have ei:((N:Int)-1).toNat=N-1:=by omega
 obtain⟨si,c1,r1⟩:=Rd.get (i:=(N:Int)-1) (by omega) (by omega)
 have er:(nP l)[((N:Int)-1).toNat]'(by omega)=[((l[N-1]:Nat):Int)/121-60,((l[N-1]:Nat):Int)%121-60]:=by simp[nP,ei]
 rw[er]at r1
 rw[eg]at HK
 exact⟨Rd.bB (by omega) (by omega),si,c1,HK si h' (r1.mono fun _ _=>trivial) f⟩
def jN(w:List UInt8):Option Int:=match Lib.atoiAll w with
 | .ok n=>if 0<=n/\n<=999999/\Lib.itoa n=w then some n else none
 |_=>none
def mK(w:List UInt8):Option Nat:=if 1<=w.length/\w.length<=6/\¬(w.head?=some 48/\1<w.length)then Lib.decFrom 0 w else none
theorem kp(c:UInt8):∀(l:List UInt8)(a:Nat),Lib.decFrom a (l++[c])=(Lib.decFrom a l).bind fun n=>(Lib.digitVal c).map fun d=>n*10+d
 |[],a=>by
  show Lib.decFrom a [c]=_
  unfold Lib.decFrom
  cases Lib.digitVal c<;>rfl
 |b::l,a=>by
  rw[List.cons_append]
  unfold Lib.decFrom
  cases Lib.digitVal b with
  |none=>rfl
  |some d=>exact kp c l _
theorem Gn{d:Nat}(h:d<10):Lib.digitVal (UInt8.ofNat (48+d))=some d:=by
 have:∀d:Fin 10,Lib.digitVal (UInt8.ofNat (48+d.val))=some d.val:=by decide
 exact this ⟨d,h⟩
theorem BF{c:UInt8}{d:Nat}(h:Lib.digitVal c=some d):d<10/\c=UInt8.ofNat (48+d):=by
 unfold Lib.digitVal at h
 split at h
 ·rename_i hc
  have h:=Option.some.inj h
  refine⟨by omega,UInt8.toNat_inj.1 ?_⟩
  rw[UInt8.toNat_ofNat']
  omega
 ·cases h
theorem Gp:∀u:Nat,Lib.decFrom 0 (Lib.decDigits u)=some u:=by
 intro u
 induction u using Nat.strongRecOn with
 |_ u ih=>
  by_cases h:u<10
  ·rw[Lib.decDigits,dif_pos h]
   have:=kp (UInt8.ofNat (48+u)) [] 0
   rw[List.nil_append]at this
   rw[this,Gn h]
   simp[Lib.decFrom]
  ·rw[Lib.decDigits,dif_neg h,kp,ih (u/10) (by omega),Gn (by omega)]
   simp only[Option.bind_some,Option.map_some,Option.some.injEq]
   omega
theorem gD:∀(k u:Nat),u<10^(k+1)->1<=(Lib.decDigits u).length/\(Lib.decDigits u).length<=k+1
 |0,u,h=>by rw[Lib.decDigits,dif_pos (by simpa using h)];simp
 |k+1,u,h=>by
  by_cases hu:u<10
  ·rw[Lib.decDigits,dif_pos hu];simp
  ·have:=gD k (u/10) (by rw[Nat.pow_succ]at h;omega)
   rw[Lib.decDigits,dif_neg hu,List.length_append,List.length_singleton]
   omega
theorem Gq:∀u:Nat,(Lib.decDigits u).head?=some 48->u=0:=by
 intro u
 induction u using Nat.strongRecOn with
 |_ u ih=>
  intro h
  by_cases hu:u<10
  ·rw[Lib.decDigits,dif_pos hu]at h
   have:∀d:Fin 10,UInt8.ofNat (48+d.val)=48->d.val=0:=by decide
   exact this ⟨u,hu⟩ (by simpa using h)
  ·rw[Lib.decDigits,dif_neg hu]at h
   have hl:=(gD (u/10) (u/10) (by have:=Nat.lt_pow_self (n:=u/10+1) (show 1<10 by omega);omega)).1
   have:(Lib.decDigits (u/10)).head?=some 48:=by
    cases hd:Lib.decDigits (u/10)with
    |nil=>rw[hd]at hl;simp at hl
    |cons x l=>rw[hd]at h;simpa using h
   have:=ih (u/10) (by omega) this
   omega
theorem Gr:∀(k:Nat)(w:List UInt8)(n:Nat),w.length=k->1<=w.length->¬(w.head?=some 48/\1<w.length)->Lib.decFrom 0 w=some n->Lib.decDigits n=w:=by
 intro k
 induction k with
 |zero=>intro w n h1 h2;omega
 |succ k ih=>
  intro w n h1 h2 h3 h4
  have hw:w≠[]:=fun e=>by rw[e]at h2;simp at h2
  have e:=List.dropLast_concat_getLast hw
  have el:(w.dropLast).length=k:=by rw[List.length_dropLast];omega
  rw[<-e,kp]at h4
  cases hm:Lib.decFrom 0 w.dropLast with
  |none=>rw[hm]at h4;cases h4
  |some m=>
   rw[hm]at h4
   cases hc:Lib.digitVal (w.getLast hw)with
   |none=>rw[hc]at h4;cases h4
   |some d=>
    rw[hc]at h4
    have h4:m*10+d=n:=by simpa using h4
    obtain⟨hd,ed⟩:=BF hc
    by_cases hk:k=0
    ·have:w.dropLast=[]:=List.length_eq_zero_iff.1 (by omega)
     rw[this]at hm e
     have hm:0=m:=by simpa[Lib.decFrom]using hm
     rw[Lib.decDigits,dif_pos (by omega),<-e,ed]
     congr 3;omega
    ·have hh:¬(w.dropLast.head?=some 48):=fun hh=>by
      refine h3 ⟨?_,by omega⟩
      cases hd:w.dropLast with
      |nil=>rw[hd]at el;simp at el;omega
      |cons x l=>rw[<-e,hd];rw[hd]at hh;simpa using hh
     have:=ih w.dropLast m el (by omega) (fun h=>hh h.1) hm
     have m0:m≠0:=fun h0=>by
      rw[h0,Lib.decDigits,dif_pos (by omega)]at this
      exact hh (by rw[<-this];rfl)
     rw[Lib.decDigits,dif_neg (by omega),show n/10=m by omega,this,show n%10=d by omega,<-ed]
     exact e
theorem PC(w:List UInt8):jN w=(mK w).map fun n=>(n:Int):=by
 unfold jN
 cases hr:mK w with
 |some n=>
  unfold mK at hr
  split at hr
  ·rename_i hc
   have hd:=Gr _ w n rfl hc.1 hc.2.2 hr
   have tf:=Lib.decFrom_lt w 0 n hr
   have hp:10^w.length<=10^6:=Nat.pow_le_pow_right (by decide) hc.2.1
   have ha:Lib.atoiAll w= .ok (n:Int):=by
    rw[Lib.atoiAll_short w (by omega)]
    cases w with
    |nil=>simp at hc
    |cons b r=>
     have hb:∃d,Lib.digitVal b=some d:=by
      unfold Lib.decFrom at hr
      cases hb:Lib.digitVal b with
      |none=>rw[hb]at hr;cases hr
      |some d=>exact⟨d,rfl⟩
     obtain⟨d,hb⟩:=hb
     obtain⟨d1,d2⟩:=BF hb
     have hx:(b==45)=false/\(b==43)=false:=by
      rw[d2]
      have:∀d:Fin 10,(UInt8.ofNat (48+d.val)==45)=false/\(UInt8.ofNat (48+d.val)==43)=false:=by decide
      exact this ⟨d,d1⟩
     unfold Lib.atoi Lib.decNat
     simp only[hx.1,hx.2,Bool.false_eq_true,if_false,List.isEmpty_cons,hr,Option.map_some,Lib.NumEnd.ofOption]
   rw[ha]
   (try simp only)
   rw[if_pos ⟨by omega,by have:(10:Nat)^6=1000000:=by decide
                          omega,by rw[Lib.itoa_nonneg,hd]⟩]
   rfl
  ·cases hr
 |none=>
  cases ha:Lib.atoiAll w with
  |ok n=>
   (try simp only)
   rw[if_neg]
   ·rfl
   ·rintro⟨h0,h1,h2⟩
    obtain⟨u,hu⟩:∃u:Nat,n=u:=⟨n.toNat,by omega⟩
    rw[hu,Lib.itoa_nonneg]at h2
    have hl:=gD 5 u (by have:(10:Nat)^(5+1)=1000000:=by decide
                        omega)
    unfold mK at hr
    rw[<-h2,if_pos ⟨hl.1,hl.2,fun h=>by
     have:=Gq u h.1
     rw[this,Lib.decDigits,dif_pos (by omega)]at h
     simp at h⟩,Gp]at hr
    cases hr
  |_=>rfl
def zL(l:List Int):List UInt8:=Lib.join (l.map Lib.itoa) [44]
def nQ(s:St):List UInt8:=Lib.itoa s.2++58::zL s.1
abbrev Dk:=List (List Int)×St
abbrev pY:=Option (Dk×List UInt8)
def BG(d:Dk)(r:St×Bool):pY:=if r.2=true then some ((d.1,r.1),nQ r.1)else none
def PD(d:Dk)(r:List Int×Bool):pY:=if r.2=true then some (d,zL r.1)else none
def UE(d:Dk)(r:Int×Bool):pY:=if r.2=true then some (d,Lib.itoa r.1)else none
def stC(d:Dk):pY:=BG d (dH d.1 d.2.1 d.2.2 1)
def prC(d:Dk):pY:=PD d ([(dU d.1 d.2.1 d.2.2).1,(dU d.1 d.2.1 d.2.2).2.1],(dU d.1 d.2.1 d.2.2).2.2)
noncomputable def cyC(d:Dk):pY:=PD d (rm d.1 d.2.1 d.2.2)
def TD(d:Dk)(p:Int):pY:=BG d ((d.2.1,p),aM d.1&&iq 0 ((d.1.length:Int)-1) p)
def rnC(d:Dk)(n:Int):pY:=BG d (dH d.1 d.2.1 d.2.2 n)
def psC(d:Dk)(n:Int):pY:=PD d (iH d.1 d.2.1 d.2.2 n)
def vsC(d:Dk)(n:Int):pY:=PD d (nT d.1 d.2.1 d.2.2 n)
def htC(d:Dk)(n:Int):pY:=UE d (nj d.1 d.2.1 d.2.2 n)
def tsC(d:Dk)(n:Int):pY:=UE d (ra d.1 n)
def flC(d:Dk)(n:Int):pY:=PD d (px d.1 n)
def UF(d:Dk)(p q:Int):pY:=if(gP d.1 p q).2=true then some (((gP d.1 p q).1,d.2),tT (gP d.1 p q).1)else none
def PE(d:Dk)(p k:Int):pY:=BG d ((d.2.1.set p.toNat k,d.2.2),aM d.1&&iq 0 ((d.1.length:Int)-1) p&&iq 0 (((d.1.getD p.toNat []).length:Int)-1) k)
def ZW(d:Dk)(p q:Int):pY:=if(rC d.1 d.2.2 p q).2=true then some (d,Lib.itoa (rC d.1 d.2.2 p q).1.1++47::Lib.itoa (rC d.1 d.2.2 p q).1.2)else none
def gwC(d:Dk)(p q:Int):pY:=PD d (pz p q)
def esC(d:Dk)(p q r s:Int):pY:=UE d (zx p q r s)
def ZX(w:List UInt8):Option pY:=match oW w with
 |some g=>some (some ((g,(List.replicate g.length 0,0)),tT g))
 |none=>none
noncomputable def iP(d:Dk)(w:List UInt8):Option pY:=
 if w=[115,116,101,112]then some (stC d)else if w=[115,104,111,119]then some (some (d,tT d.1))else if w=[119,97,108,107]then some (some (d,nQ d.2))
 else if w=[112,101,114,105,111,100]then some (prC d)else if w=[99,121,99,108,101]then some (cyC d)else none
def gN(d:Dk)(w:List UInt8)(n:Int):Option pY:=
 if w=[97,116]then some (TD d n)else if w=[114,117,110]then some (rnC d n)else if w=[112,97,115,115]then some (psC d n)else if w=[118,105,115,105,116,115]then some (vsC d n)
 else if w=[104,105,116]then some (htC d n)else if w=[116,114,101,101,115]then some (tsC d n)else if w=[102,117,108,108]then some (flC d n)else none
def uR(d:Dk)(w:List UInt8)(a b:Int):Option pY:=
 if w=[97,100,100]then some (UF d a b)else if w=[116,117,114,110]then some (PE d a b)else if w=[99,104,97,110,99,101]then some (ZW d a b)else if w=[103,114,111,119]then some (gwC d a b)else none
def Me:List UInt8:=[103,114,97,112,104]
def zB:List UInt8:=[101,115,99,97,112,101,115]
noncomputable def bT(d:Dk)(w:List UInt8)(ns:List Int):Option pY:=match ns with
 |[]=>iP d w
 |[a]=>gN d w a
 |[a,b]=>uR d w a b
 |[a,b,c,e]=>if w=zB then some (esC d a b c e)else none
 |_=>none
noncomputable def gV(d:Dk)(ws:List (List UInt8)):Option pY:=
 if ws.length=2/\ws.headD []=Me then ZX (ws.getD 1 [])else match gF jN ws.tail with
 |none=>none
 |some ns=>bT d (ws.headD []) ns
def ZY(d:Dk)(a:Option pY):Dk×List UInt8:=match a with
 |none=>(d,[119,104,97,116])
 |some none=>(d,[110,111])
 |some (some r)=>r
noncomputable def fZ(d:Dk)(s:List UInt8):Dk×List UInt8:=ZY d (gV d (gr 32 s))
def nW(d:Dk):Prop:=eW d.1 d.2.1 d.2.2=true
noncomputable def gJ:Dk->List (List UInt8)->Dk×List (List UInt8)
 |d,[]=>(d,[])
 |d,s::ss=>((gJ (fZ d s).1 ss).1,(fZ d s).2::(gJ (fZ d s).1 ss).2)
def jZ:Dk:=([[1,2],[0,2],[0]],([0,0,0],0))
noncomputable def cZ(s:List UInt8):Option (Dk×List (List UInt8)):=if s.length<=3000/\(gr 10 s).getLast?=some []/\(gr 10 s).length<=51 then some (gJ jZ (gr 10 s).dropLast)else none
theorem pA{n:Int}(h0: -9223372036854775808<=n)(h1:n<=9223372036854775807):(Lib.itoa n).length<=21:=Lib.itoa_length_le n h0 h1
theorem DW{rs:List Int}(B:∀x,x∈rs-> -9223372036854775808<=x/\x<=9223372036854775807):(zL rs).length<=41*rs.length:=by
 have:=qX 44 (rs.map Lib.itoa) fun y hy=>by
  obtain⟨x,hx,rfl⟩:=List.mem_map.1 hy
  have:=pA (B x hx).1 (B x hx).2
  omega
 rw[List.length_map]at this
 exact this
theorem ac1{d:Int}(h0:0<=d)(h1:d<10):IntKind.u8.wrap (48+d)=48+d:=by
 show(48+d)%256=48+d
 omega
theorem DX{d:Nat}(h:d<10):strOfNums [48+(d:Int)]=⟨[UInt8.ofNat (48+d)].toArray⟩:=by
 apply ByteArray.ext
 apply Array.toList_inj.1
 rw[strOfNums_data]
 simp only[List.map_cons,List.map_nil,List.cons.injEq,and_true]
 have:(48+(d:Int)).toNat=48+d:=by omega
 rw[this]
theorem jq(n:Nat):n<=1000000000000000000->∀{h:Heap}(K:Value->Heap->Prop),(∀h',Fr No h h'->K (VS ⟨(Lib.decDigits n).toArray⟩) h')->aE Tryz.prog 73 #[VI n] h K:=by
 induction n using Nat.strongRecOn with
 |_ n ih=>
  intro hn h K HK
  by_cases hd:n<10
  ·exact J1 (by omega) (by omega) K (by rw[Int.toNat_natCast];exact HK)
  have akl:Lib.decDigits n=Lib.decDigits (n/10)++[UInt8.ofNat (48+n%10)]:=by rw[Lib.decDigits,dif_neg hd]
  have hlen:(Lib.decDigits (n/10)).length<=19:=(gD 18 (n/10) (by omega)).2
  rw[akl]at HK
  have et:Int.tmod (n:Int) 10=((n%10:Nat):Int):=by rw[Int.tmod_eq_emod_of_nonneg (by omega)];omega
  have ed:aL (Int.tdiv (n:Int) 10)=((n/10:Nat):Int):=by rw[Int.tdiv_eq_ediv_of_nonneg (by omega),aG _ (by omega) (by omega)];omega
  have ew:aL (48+Int.tmod (n:Int) 10)=48+((n%10:Nat):Int):=by rw[et,aG _ (by omega) (by omega)]
  have ap:(⟨(Lib.decDigits (n/10)).toArray⟩:ByteArray)++⟨[UInt8.ofNat (48+n%10)].toArray⟩=⟨(Lib.decDigits (n/10)++[UInt8.ofNat (48+n%10)]).toArray⟩:=eN _ _
  have conv:∀{X:Heap}{K:Value->Prop},K (.int .u8 (48+((n%10:Nat):Int)))->zN Tryz.prog (convert 3 5 (VI (aL (48+Int.tmod (n:Int) 10)))) X K:=fun HK=>by
   rw[ew]
   refine jI (show Tryz.prog.underlying _=some (.int .i64)from by kernel_rfl) (show Tryz.prog.underlying _=some (.int .u8)from by kernel_rfl) (48+((n%10:Nat):Int)) ?_
   rw[ac1 (by omega) (by omega)]
   exact HK
  refine v73 n h K ⟨fun e=>by simp only[decide_eq_true_eq]at e;omega,fun e=>conv ⟨_,rfl,?_,?_⟩⟩
  ·rw[ed]
   refine ih (n/10) (by omega) (by omega) _ fun h2 f2=>⟨_,rfl,.nil,?_,?_⟩
   ·obtain⟨v,hv,e⟩:=(conv (X:=h2) (K:=fun v=>v= .int .u8 (48+((n%10:Nat):Int))) rfl).out
    subst e
    exact hv
   refine aP RA (fun k=>h2.size<=k) (fun _ h=>h) 1 (by omega) [.int .u8 (48+((n%10:Nat):Int))] rfl rfl fun w h3 n3 c3 o3 f3 m3 _=>⟨w,rfl,.nil,?_⟩
   refine oS (bs:=[UInt8.ofNat (48+n%10)]) o3.eQ (DX (by omega)) ⟨_,rfl,?_,?_⟩
   ·rw[bZ,bZ];simp only[List.length_singleton];omega
   ·rw[ap];exact HK h3 (f2.aA f3)
  ·refine aP RA (fun k=>h.size<=k) (fun _ h=>h) 1 (by omega) [.int .u8 (48+((n%10:Nat):Int))] rfl rfl fun w h4 n4 c4 o4 f4 m4 _=>⟨w,rfl,.nil,?_⟩
   refine oS (bs:=[UInt8.ofNat (48+n%10)]) o4.eQ (DX (by omega)) ⟨_,rfl,?_⟩
   rw[ed]
   refine ih (n/10) (by omega) (by omega) _ fun h5 f5=>⟨_,rfl,.nil,?_,?_,?_⟩
   ·obtain⟨v,hv,e⟩:=(oS (h:=h5) (bs:=[UInt8.ofNat (48+n%10)]) (cM.no o4.eQ f5) (DX (d:=n%10) (by omega)) (K:=fun v=>v=VS ⟨[UInt8.ofNat (48+n%10)].toArray⟩) rfl).out
    subst e
    exact hv
   ·rw[bZ,bZ];simp only[List.length_singleton];omega
   ·rw[ap];exact HK h5 (f4.aA f5)
theorem TE{n:Int}(h0: -1000000000000000000<=n)(h1:n<=1000000000000000000){h:Heap}(K:Value->Heap->Prop)(HK:∀h',Fr No h h'->K (VS ⟨(Lib.itoa n).toArray⟩) h'):aE Tryz.prog 225 #[VI n] h K:=by
 refine ahe n h K ⟨fun e=> ?_,fun e=> ?_⟩
 ·simp only[decide_eq_true_eq]at e
  obtain⟨u,hu⟩:∃u:Nat,n= -(u:Int):=⟨(-n).toNat,by omega⟩
  rw[aG _ (by omega) (by omega),show(0:Int)-n=((u:Nat):Int) by omega]
  refine jq u (by omega) _ fun h2 f2=>⟨_,rfl,.nil,?_,?_⟩
  ·have:=(gD 18 u (by omega)).2
   rw[show(⟨#[45]⟩:ByteArray)=⟨[45].toArray⟩from rfl,bZ,bZ];simp only[List.length_singleton];omega
  ·have:=HK h2 f2
   rw[hu,Lib.itoa_neg u (by omega)]at this
   rw[show(⟨#[45]⟩:ByteArray)=⟨[45].toArray⟩from rfl,eN]
   exact this
 ·simp only[decide_eq_false_iff_not]at e
  obtain⟨u,rfl⟩:∃u:Nat,n=(u:Int):=⟨n.toNat,by omega⟩
  rw[Lib.itoa_nonneg]at HK
  exact jq u (by omega) _ fun h2 f2=>⟨_,rfl,.nil,HK h2 f2⟩
theorem Gs{S:Nat->Prop}{h:Heap}{s:Sl}{rs:List Int}(H:aQ S h s rs)(B:∀x,x∈rs-> -1000000000000000000<=x/\x<=1000000000000000000)(hn:rs.length<=1000)(K:Value->Heap->Prop)(HK:∀h',Fr No h h'->K (VS ⟨(zL rs).toArray⟩) h'):aE Tryz.prog 180 #[s.v] h K:=by
 have sn:=H.len
 have B':∀x,x∈rs-> -9223372036854775808<=x/\x<=9223372036854775807:=fun x hx=>by have:=B x hx;omega
 refine age s h K ⟨fun m out i h'=>0<=i/\i+m=(rs.length:Int)/\out=(⟨(zL (rs.take i.toNat)).toArray⟩:ByteArray)/\Fr No h h',⟨rs.length,by omega,by omega,rfl,Fr.refl _ _⟩,?_⟩
 rintro m out i h3 ⟨i0,i1,rfl,f3⟩ cF
 have H3:=H.no f3
 refine⟨fun e2=> ?_,fun e2=> ?_⟩
 ·have hi:=H3.lt e2
  have wq:i.toNat<rs.length:=by omega
  have b:=B _ (List.getElem_mem wq)
  have hl1:=DW (rs:=rs.take i.toNat) fun x hx=>B' x (List.mem_of_mem_take hx)
  rw[List.length_take]at hl1
  generalize hB:zL (rs.take i.toNat)++(if i.toNat=0 then[]else[44])=Q
  have Ql:Q.length<=41001:=by rw[<-hB,List.length_append];split<;>simp only[List.length_nil,List.length_cons]<;>omega
  have next:zL (rs.take (i.toNat+1))=Q++Lib.itoa rs[i.toNat]:=by rw[<-hB];unfold zL;rw[tQ Lib.itoa [44] wq]
  refine⟨H3.bB i0 hi,_,H3.get i0 hi,fun x h'=>x=(⟨Q.toArray⟩:ByteArray)/\h'=h3,⟨fun e5=>⟨?_,?_,rfl⟩,fun e5=>⟨?_,rfl⟩⟩,?_⟩
  ·rw[bZ];show _+1<=_;omega
  ·simp only[decide_eq_true_eq]at e5
   rw[show(⟨#[44]⟩:ByteArray)=⟨[44].toArray⟩from rfl,eN,<-hB,if_neg (by omega)]
  ·simp only[decide_eq_false_iff_not]at e5
   rw[<-hB,if_pos (by omega),List.append_nil]
  rintro x h5 ⟨rfl,rfl⟩ gh
  refine TE b.1 b.2 _ fun h6 f6=>⟨_,rfl,.nil,?_,?_⟩
  ·have:=pA (n:=rs[i.toNat]) (by omega) (by omega)
   rw[bZ,bZ];omega
  ·rw[eN,<-next,aG _ (by omega) (by omega)]
   exact⟨m-1,by omega,by omega,by omega,by rw[show(i+1).toNat=i.toNat+1 by omega],f3.aA f6⟩
 ·have hi:=H3.ge e2
  rw[List.take_of_length_le (by omega)]
  exact HK h3 f3
theorem Gt{S:Nat->Prop}{h:Heap}{s:Sl}{rs:List Int}(H:aQ S h s rs){p:Int}(hp:0<=p/\p<=1000000000000000000)(B:∀x,x∈rs-> -1000000000000000000<=x/\x<=1000000000000000000)(hn:rs.length<=1000)(K:Value->Heap->Prop)(HK:∀h',Fr No h h'->K (VS ⟨(nQ (rs,p)).toArray⟩) h'):aE Tryz.prog 130 #[.agg #[s.v,VI p]] h K:=by
 refine v130 s p h K fun b1 h1 eD f1 bY=> ?_
 have f1:=f1.aF
 obtain⟨u,rfl⟩:∃u:Nat,p=(u:Int):=⟨p.toNat,by omega⟩
 have dl:=(gD 18 u (by omega)).2
 have zl:=DW (rs:=rs) fun x hx=>by have:=B x hx;omega
 refine jq u (by omega) _ fun h2 f2=>⟨_,rfl,bY.aB f2,by rw[bZ];show _+1<=_;omega,Gs ((H.no f1).no f2) B hn _ fun h3 f3=>⟨_,rfl,(bY.aB f2).aB f3,?_,?_⟩⟩
 ·rw[show(⟨#[58]⟩:ByteArray)=⟨[58].toArray⟩from rfl,eN,bZ,bZ,List.length_append];show _+1+_<=_;omega
 ·rw[show(⟨#[58]⟩:ByteArray)=⟨[58].toArray⟩from rfl,eN,eN]
  have:=HK h3 ((f1.aA f2).aA f3)
  unfold nQ at this
  rw[Lib.itoa_nonneg]at this
  simpa using this
theorem I3{n:Int}{ok:Bool}(hn:ok=true->0<=n/\n<=1000000000000000000){h:Heap}(K:Value->Heap->Prop)(HK:∀h',Fr No h h'->K (VS ⟨(if ok=true then Lib.itoa n else[110,111]).toArray⟩) h'):aE Tryz.prog 134 #[VI n,VB ok] h K:=by
 refine afj n ok h K ⟨fun e=> ?_,fun e=> ?_⟩
 ·have e:ok=false:=by simpa using e
  rw[if_neg (by rw[e];decide)]at HK
  exact HK h (Fr.refl _ _)
 ·have e:ok=true:=by simpa using e
  rw[if_pos e]at HK
  have:=hn e
  obtain⟨u,rfl⟩:∃u:Nat,n=(u:Int):=⟨n.toNat,by omega⟩
  rw[Lib.itoa_nonneg]at HK
  exact jq u (by omega) _ fun h2 f2=>⟨_,rfl,.nil,HK h2 f2⟩
theorem PF{S:Nat->Prop}{h:Heap}{s:Sl}{rs:List Int}{ok:Bool}(H:ok=true->aQ S h s rs)(B:ok=true->∀x,x∈rs-> -1000000000000000000<=x/\x<=1000000000000000000)(hn:ok=true->rs.length<=1000)(K:Value->Heap->Prop)(HK:∀h',Fr No h h'->K (VS ⟨(if ok=true then zL rs else[110,111]).toArray⟩) h'):aE Tryz.prog 131 #[s.v,VB ok] h K:=by
 refine v131 s ok h K ⟨fun e=> ?_,fun e=> ?_⟩
 ·have e:ok=false:=by simpa using e
  rw[if_neg (by rw[e];decide)]at HK
  exact HK h (Fr.refl _ _)
 ·have e:ok=true:=by simpa using e
  rw[if_pos e]at HK
  exact Gs (H e) (B e) (hn e) _ fun h2 f2=>⟨_,rfl,.nil,HK h2 f2⟩
def lZ(rs:List Int):List UInt8:=if rs.length=0 then[45]else zL rs
theorem ZZ{rs:List Int}(B:∀x,x∈rs-> -9223372036854775808<=x/\x<=9223372036854775807):(lZ rs).length<=41*rs.length+1:=by
 have:=DW B
 unfold lZ
 split
 ·simp
 ·omega
theorem vy{S:Nat->Prop}{h:Heap}(GL:gS h){s:Sl}{rs:List Int}(H:aQ S h s rs)(B:∀x,x∈rs-> -9223372036854775808<=x/\x<=9223372036854775807)(hn:rs.length<=1000)(K:Value->Heap->Prop)(HK:∀h',Fr No h h'->K (VS ⟨(lZ rs).toArray⟩) h'):aE Tryz.prog 89 #[s.v] h K:=by
 have sn:=aQ.len H
 refine v89 s h K ⟨fun e=> ?_,fun e=> ?_⟩
 ·simp only[decide_eq_true_eq]at e
  have:=HK h (Fr.refl _ _)
  unfold lZ at this
  rw[if_pos (by omega)]at this
  exact this
 simp only[decide_eq_false_iff_not]at e
 refine aP Mc (fun k=>h.size<=k) (fun _ h=>h) 0 (by omega) [] rfl rfl fun o h1 n1 c1 o1 f1 m1 _=>⟨o,rfl,.nil,?_⟩
 have z1:=f1.size
 have Rf:vK h1 (fun k=>h.size<=k) o []:=o1
 have vp:∀{x:Heap},Fr (fun k=>h.size<=k) h x->Fr No h x:=fun f=>f.mono fun k hk aI=>absurd aI (by omega)
 refine⟨fun m x p h'=>0<=p/\p+m=(rs.length:Int)/\vK h' (fun k=>h.size<=k) x ((rs.take p.toNat).map fun y=>(⟨(Lib.itoa y).toArray⟩:ByteArray))/\Fr (fun k=>h.size<=k) h h',⟨rs.length,by omega,by omega,by simpa using Rf,f1.aB⟩,?_⟩
 rintro m x p h2 ⟨p0,p1,o2,f2⟩ bW
 have z2:=f2.size
 have H2:=H.no (vp f2)
 refine⟨fun e2=> ?_,fun e2=> ?_⟩
 ·have hp:=H2.lt e2
  have bx:=B _ (List.getElem_mem (show p.toNat<rs.length by omega))
  refine⟨H2.bB p0 hp,_,H2.get p0 hp,jf (GL.no (vp f2)) bx.1 bx.2 _ fun h3 f3=>⟨_,rfl,.nil,?_⟩⟩
  refine mq (Ow.no o2 f3) (fun k hk=>by have:=f3.size;omega) .nil (fun q hq=>by cases hq) (by simp;omega) _ fun t h5 o5 f5 _=> ?_
  rw[H2.succ p0 hp]
  refine⟨m-1,by omega,by omega,by omega,?_,(f2.trans f3.aB).trans f5⟩
  rw[show(p+1).toNat=p.toNat+1 by omega,List.take_add_one,List.getElem?_eq_getElem (show p.toNat<rs.length by omega)]
  rw[List.map_append]
  exact o5
 ·have hp:=H2.ge e2
  rw[List.take_of_length_le (by omega)]at o2
  have hm:((rs.map fun y=>(⟨(Lib.itoa y).toArray⟩:ByteArray)).map (·.data.toList))=rs.map Lib.itoa:=by simp
  have VH:=DW B
  unfold zL at VH
  refine HI o2.eQ (fun hh=>by have:=congrArg List.length hh;simp at this;simp[this]at sn;omega) (by simp;omega) (by rw[hm];show(Lib.join _ [44]).length<=_;omega) _ fun h3 f3=>⟨_,rfl,.nil,?_⟩
  have:=HK h3 ((vp f2).trans f3)
  unfold lZ zL at this
  rw[if_neg (by omega)]at this
  rw[hm]
  exact this
def zC(s:St):List UInt8:=Lib.itoa s.2++58::lZ s.1
theorem vz{S:Nat->Prop}{h:Heap}(GL:gS h){s:Sl}{rs:List Int}(H:aQ S h s rs){p:Int}(hp: -9223372036854775808<=p/\p<=9223372036854775807)(B:∀x,x∈rs-> -9223372036854775808<=x/\x<=9223372036854775807)(hn:rs.length<=1000)(K:Value->Heap->Prop)(HK:∀h',Fr No h h'->K (VS ⟨(zC (rs,p)).toArray⟩) h'):aE Tryz.prog 55 #[.agg #[s.v,VI p]] h K:=by
 refine v55 s p h K fun b1 h1 eD f1 bY=> ?_
 have f1:=f1.aF
 have dl:=pA hp.1 hp.2
 have zl:=ZZ B
 refine jf (GL.no f1) hp.1 hp.2 _ fun h2 f2=>⟨_,rfl,bY.aB f2,by rw[bZ];show _+1<=_;omega,vy ((GL.no f1).no f2) ((H.no f1).no f2) B hn _ fun h3 f3=>⟨_,rfl,(bY.aB f2).aB f3,?_,?_⟩⟩
 ·rw[show(⟨#[58]⟩:ByteArray)=⟨[58].toArray⟩from rfl,eN,bZ,bZ,List.length_append];show _+1+_<=_;omega
 ·rw[show(⟨#[58]⟩:ByteArray)=⟨[58].toArray⟩from rfl,eN,eN]
  have:=HK h3 ((f1.aA f2).aA f3)
  unfold zC at this
  simpa using this
theorem TF{S:Nat->Prop}{h:Heap}(GL:gS h){s:Sl}{rs:List Int}(ok:Bool)(H:aQ S h s rs)(B:∀x,x∈rs-> -9223372036854775808<=x/\x<=9223372036854775807)(hn:rs.length<=1000)(K:Value->Heap->Prop)(HK:∀h',Fr No h h'->K (.agg #[VS ⟨(lZ rs).toArray⟩,VB ok]) h'):aE Tryz.prog 158 #[s.v,VB ok] h K:=by
 refine afI s ok h K fun b1 h1 eD f1 bY=> ?_
 have f1:=f1.aF
 refine vy (GL.no f1) (H.no f1) B hn _ fun h2 f2=>⟨_,rfl,bY.aB f2,fun h3 f3 cF=>HK h3 ?_⟩
 exact(f1.aA f2).fresh f3 fun k hk=>by simp[In]at hk;omega
theorem PG{h:Heap}(GL:gS h){n:Int}(ok:Bool)(hn: -9223372036854775808<=n/\n<=9223372036854775807)(K:Value->Heap->Prop)(HK:∀h',Fr No h h'->K (.agg #[VS ⟨(Lib.itoa n).toArray⟩,VB ok]) h'):aE Tryz.prog 116 #[VI n,VB ok] h K:=by
 refine aeR n ok h K fun b1 h1 eD f1 bY=> ?_
 have f1:=f1.aF
 refine jf (GL.no f1) hn.1 hn.2 _ fun h2 f2=>⟨_,rfl,bY.aB f2,fun h3 f3 cF=>HK h3 ?_⟩
 exact(f1.aA f2).fresh f3 fun k hk=>by simp[In]at hk;omega
def fE(lo:Nat)(h:Heap):Prop:=∀X,Fr (fun k=>lo<=k) h X->gS X
theorem fE.here{lo:Nat}{h:Heap}(G:fE lo h):gS h:=G h (Fr.refl _ _)
theorem fE.next{lo:Nat}{h h':Heap}(G:fE lo h)(f:Fr (fun k=>lo<=k) h h'):fE lo h':=fun X fX=>G X (f.trans fX)
theorem fE.no{lo:Nat}{h h':Heap}(G:fE lo h)(f:Fr No h h'):fE lo h':=G.next f.aB
theorem fE.of{h:Heap}(G:gS h):fE h.size h:=fun X f=>G.no (f.mono fun k hk aI=>absurd aI (by omega))
theorem fE.up{lo lo':Nat}{h:Heap}(G:fE lo h)(hl:lo<=lo'):fE lo' h:=fun X f=>G X (f.mono fun k _ hk=>by omega)
structure nX(lo:Nat)(h:Heap)(b1:Nat)(g w:Sl)(d:Dk)(cw:Bool)(F F' Z:Nat->Prop):Prop where
 V:Vars h [(b1,[g.v,w.v,VI d.2.2,VB cw])]
 G:gO h F g d.1
 W:bR h F' w d.2.1
 fl:∀k,F k->lo<=k/\¬Z k
 wl:∀k,F' k->lo<=k/\¬Z k
 dj:∀k,F k->¬F' k
 lb:lo<=b1
 xb:Z b1
 xh:∀k,Z k->k<h.size
def iV(lo:Nat)(h:Heap)(b1:Nat)(Z:Nat->Prop)(o:Option pY)(v:Value)(h':Heap):Prop:=
 ∃(t:ByteArray)(ok:Bool)(g w:Sl)(p:Int)(cw:Bool),v= .agg #[VS t,VB ok]/\Vars h' [(b1,[g.v,w.v,VI p,VB cw])]/\Fr (fun k=>k=b1\/h.size<=k) h h'/\match o with
  |none=>cw=true
  |some none=>cw=false/\ok=false
  |some (some r)=>cw=false/\ok=true/\t=⟨r.2.toArray⟩/\p=r.1.2.2/\∃F F',nX lo h' b1 g w r.1 false F F' Z
theorem nX.no{lo:Nat}{h h':Heap}{b1:Nat}{g w:Sl}{d:Dk}{cw:Bool}{F F' Z:Nat->Prop}(D:nX lo h b1 g w d cw F F' Z)(f:Fr No h h'):nX lo h' b1 g w d cw F F' Z:=⟨D.V.aB f,D.G.no f,Ow.no D.W f,D.fl,D.wl,D.dj,D.lb,D.xb,fun k hk=>Nat.lt_of_lt_of_le (D.xh k hk) f.size⟩
theorem nX.f1{lo:Nat}{h:Heap}{b1:Nat}{g w:Sl}{d:Dk}{cw:Bool}{F F' Z:Nat->Prop}(D:nX lo h b1 g w d cw F F' Z){k:Nat}(hk:F k):k≠b1:=fun e=>(D.fl k hk).2 (e▸D.xb)
theorem nX.w1{lo:Nat}{h:Heap}{b1:Nat}{g w:Sl}{d:Dk}{cw:Bool}{F F' Z:Nat->Prop}(D:nX lo h b1 g w d cw F F' Z){k:Nat}(hk:F' k):k≠b1:=fun e=>(D.wl k hk).2 (e▸D.xb)
theorem nX.fr{lo:Nat}{h h':Heap}{b1:Nat}{g w:Sl}{d:Dk}{cw:Bool}{F F' Z:Nat->Prop}(D:nX lo h b1 g w d cw F F' Z){T:Nat->Prop}(f:Fr T h h')(hT:∀k,T k->h.size<=k):nX lo h' b1 g w d cw F F' Z:=D.no (f.mono fun k hk h2=>by have:=hT k h2;omega)
theorem aW{h:Heap}{b1:Nat}{cs:List Value}:∀{L:List (Nat×List Value)},Vars h (L++[(b1,cs)])->Vars h [(b1,cs)]
 |[],V=>V
 |_::_,V=>aW V.tail
theorem pZ{d:Dk}(h:nW d):1<=d.2.1.length/\d.2.1.length<=8:=by
 have W:=cV h
 have:=aO W.bE
 have h2:d.2.1.length=d.1.length:=W.len
 omega
theorem UG{rs:List Int}(h:1<=rs.length):lZ rs=zL rs:=by unfold lZ;rw[if_neg (by omega)]
theorem p4{s:St}(h:1<=s.1.length):zC s=nQ s:=by unfold zC nQ;rw[UG h]
theorem DY{lo:Nat}{h:Heap}(GL:fE lo h){b1:Nat}(wj:lo<=b1)(sV:lo<=h.size){c1 c2 w1:Sl}{c3 p1:Int}{c4 ok:Bool}{S:Nat->Prop}{Z8:List Int}(hL:Vars h [(b1,[c1.v,c2.v,VI c3,VB c4])])(H:aQ S h w1 Z8)(hS:∀k,S k->k≠b1)(B:∀x,x∈Z8-> -9223372036854775808<=x/\x<=9223372036854775807)(hn:Z8.length<=1000)(hp: -9223372036854775808<=p1/\p1<=9223372036854775807)(K:Value->Heap->Prop)
 (HK:∀h',Fr (fun k=>k=b1) h h'->Vars h' [(b1,[c1.v,(if ok=true then w1 else c2).v,VI (if ok=true then p1 else c3),VB c4])]->K (.agg #[VS ⟨(zC (Z8,p1)).toArray⟩,VB ok]) h'):aE Tryz.prog 155 #[VP b1 0,.agg #[w1.v,VI p1],VB ok] h K:=by
 have lb:=hL.head.lt
 refine afD b1 c1 c2 c3 c4 w1 p1 ok h K hL fun b2 b3 h2 dK iR f2 bW=> ?_
 have f2:=f2.aF
 have z2:=f2.size
 have l3:=bW.head.lt
 have l2:=bW.tail.head.lt
 refine⟨fun x1 x2 x3 x4 h'=>x1=c1/\x2=(if ok=true then w1 else c2)/\x3=(if ok=true then p1 else c3)/\x4=c4/\Fr (fun k=>k=b1) h2 h',⟨fun e h3 f3 cF=>⟨rfl,by rw[if_pos e],by rw[if_pos e],rfl,f3.mono fun k _ hk=>by simpa[In]using hk⟩,fun e=>⟨rfl,by rw[if_neg (by rw[e];decide)],by rw[if_neg (by rw[e];decide)],rfl,Fr.refl _ _⟩⟩,?_⟩
 rintro _ _ _ _ h4 ⟨rfl,rfl,rfl,rfl,f4⟩ dS
 have z4:=f4.size
 have F4:Fr (fun k=>k=b1) h h4:=f2.aB.trans f4
 have H4:=H.fr F4 fun k hk aI=>hS k hk aI
 refine vz (GL.next (F4.mono fun k _ hk=>by omega)).here H4 hp B hn _ fun h5 f5=>⟨_,rfl,dS.aB f5,fun h6 f6 jG=> ?_⟩
 refine HK h6 ?_ (aW (L:=[_,_]) jG)
 exact(F4.trans f5.aB).BV f6 fun k hk=>by simp only[In,List.mem_singleton]at hk;omega
theorem nX.low{lo:Nat}{h:Heap}{b1:Nat}{g w:Sl}{d:Dk}{cw:Bool}{F F' Z:Nat->Prop}(D:nX lo h b1 g w d cw F F' Z):nX lo h b1 g w d cw (fun k=>F k/\k<h.size) (fun k=>F' k/\k<h.size) Z:=⟨D.V,D.G.mono fun k hk hF=>⟨hF,hk⟩,Ow.mono D.W fun k hk hF=>⟨hF,(D.W.aH hk).2⟩,fun k hk=>D.fl k hk.1,fun k hk=>D.wl k hk.1,fun k h1 h2=>D.dj k h1.1 h2.1,D.lb,D.xb,D.xh⟩
theorem nX.Z9{lo n:Nat}{h h':Heap}{b1:Nat}{g w w1:Sl}{d:Dk}{cw:Bool}{F F' Z:Nat->Prop}(D:nX lo h b1 g w d cw F F' Z){Z8:List Int}{p1:Int}(hn:h.size<=n)(V':Vars h' [(b1,[g.v,w1.v,VI p1,VB false])])(f:Fr (fun k=>k=b1\/n<=k) h h')(W1:bR h' (fun k=>n<=k) w1 Z8):∃F F',nX lo h' b1 g w1 (d.1,(Z8,p1)) false F F' Z:=by
 have lb:=D.V.head.lt
 have ll:=D.lb
 refine⟨fun k=>F k/\k<h.size,fun k=>n<=k,V',?_,W1,fun k hk=>D.fl k hk.1,fun k hk=>⟨by omega,fun hx=>by have:=D.xh k hx;omega⟩,fun k h1 h2=>by omega,D.lb,D.xb,fun k hk=>Nat.lt_of_lt_of_le (D.xh k hk) f.size⟩
 exact D.low.G.fr f fun k _ hk aI=>by
  have:=D.f1 hk.1
  have:=hk.2
  rcases aI with h|h<;>omega
theorem nX.akm{lo n:Nat}{h h':Heap}{b1:Nat}{g g1 w:Sl}{d:Dk}{cw:Bool}{F F' Z:Nat->Prop}(D:nX lo h b1 g w d cw F F' Z){ac2:List (List Int)}(hn:h.size<=n)(V':Vars h' [(b1,[g1.v,w.v,VI d.2.2,VB false])])(f:Fr (fun k=>k=b1\/n<=k) h h')(G1:gO h' (fun k=>n<=k) g1 ac2):∃F F',nX lo h' b1 g1 w (ac2,d.2) false F F' Z:=by
 have lb:=D.V.head.lt
 have ll:=D.lb
 refine⟨fun k=>n<=k,fun k=>F' k/\k<h.size,V',G1,?_,fun k hk=>⟨by omega,fun hx=>by have:=D.xh k hx;omega⟩,fun k hk=>D.wl k hk.1,fun k h1 h2=>by omega,D.lb,D.xb,fun k hk=>Nat.lt_of_lt_of_le (D.xh k hk) f.size⟩
 exact Ow.fr D.low.W f fun k hk aI=>by
  have h1:=(D.low.W.aH hk).1
  have:=D.w1 h1.1
  have:=h1.2
  rcases aI with h|h<;>omega
theorem uS{d:Dk}(h:nW d):∀x,x∈d.2.1-> -9223372036854775808<=x/\x<=9223372036854775807:=fun x hx=>by
 have:=(fQ (cV h)).1 x hx
 omega
theorem ac3{lo:Nat}{h:Heap}(GL:fE lo h)(sV:lo<=h.size){b1:Nat}{g w:Sl}{d:Dk}{F F' Z:Nat->Prop}(D:nX lo h b1 g w d false F F' Z)(ok:nW d){a:Int}(ha:0<=a/\a<=999999)(K:Value->Heap->Prop)(HK:∀v h',iV lo h b1 Z (some (TD d a)) v h'->K v h'):aE Tryz.prog 160 #[VP b1 0,VI a] h K:=by
 have lb:=D.V.head.lt
 have dl:=pZ ok
 refine v160 b1 g w d.2.2 false a h K D.V fun b2 h1 dK f1 bY=> ?_
 have f1:=f1.aF
 have z1:=f1.size
 have Ag:=bY.head.lt
 refine ic (cM.no D.W.rd f1) d.2.2 (by omega) _ fun t h2 o2 f2=>⟨t,_,rfl,bY.aB f2,fun b3 h5 iR f5 gh=> ?_⟩
 have f5:=f5.aF
 have z2:=f2.size
 have z5:=f5.size
 have Vw:=gh.head.lt
 refine fK _ fun x h6 o6 f6=>⟨x,rfl,gh.aB f6,?_⟩
 have z6:=f6.size
 have xF:=((f1.aA f2).aA f5).aA f6
 refine rZ (D.G.rd.no xF) o6.rd _ fun h7 f7=>⟨_,rfl,(gh.aB f6).aB f7,?_⟩
 have z7:=f7.size
 have L8:=xF.aA f7
 have D7:=D.no L8
 obtain⟨bb,hb⟩:∃bb,bb=(aM d.1&&iq 0 ((d.1.length:Int)-1) a):=⟨_,rfl⟩
 have eb:(aM d.1&&[a].all (iq 0 ((d.1.length:Int)-1)))=bb:=by rw[hb];simp
 rw[eb]
 have W7:bR h7 (Iv h1.size h2.size) t d.2.1:=Ow.no (Ow.no (Ow.no o2 f5) f6) f7
 have jv:=(gh.aB f6).aB f7
 refine DY (GL.no L8) D.lb (by omega) D7.V W7.eQ (fun k hk=>by have:=hk.1;omega) (uS ok) (by omega) (by omega) _ fun h8 f8 V8=> ?_
 have z8:=f8.size
 refine⟨g,(if bb=true then t else w),(if bb=true then a else d.2.2),false,_,bb,rfl,jv.set (i:=2) rfl f8 V8.head,fun h9 f9 fP=>HK _ h9 ?_⟩
 have n9:∀{k:Nat},In [b2] k->k=b2:=fun hk=>by simpa[In]using hk
 have fB:Fr (fun k=>k=b1\/h.size<=k) h h9:=(L8.aB.trans (f8.mono fun k _ hk=> .inl hk)).trans (f9.mono fun k _ hk=> .inr (by have:=n9 hk;omega))
 refine⟨_,bb,_,_,_,false,rfl,aW (L:=[_,_]) fP,fB,?_⟩
 unfold TD BG
 rw[<-hb]
 cases bb with
 |false=>exact⟨rfl,rfl⟩
 |true=>
  have W9:=Ow.fr (Ow.fr W7 f8 fun k hk aI=>by have:=(W7.aH hk).1.1;omega) f9 fun k hk aI=>by have h1:=(W7.aH hk).1.1;have:=n9 aI;omega
  exact⟨rfl,rfl,by rw[p4 (s:=(d.2.1,a)) dl.1],rfl,D.Z9 (n:=h.size) (Nat.le_refl _) (aW (L:=[_,_]) fP) fB (W9.mono fun k _ hk=>by have:=hk.1;omega)⟩
set_option maxHeartbeats 1000000 in
theorem TG{lo:Nat}{h:Heap}(GL:fE lo h)(sV:lo<=h.size){b1:Nat}{g w:Sl}{d:Dk}{F F' Z:Nat->Prop}(D:nX lo h b1 g w d false F F' Z)(ok:nW d){a c:Int}(ha:0<=a/\a<=999999)(hc:0<=c/\c<=999999)(K:Value->Heap->Prop)(HK:∀v h',iV lo h b1 Z (some (PE d a c)) v h'->K v h'):aE Tryz.prog 168 #[VP b1 0,VI a,VI c] h K:=by
 have lb:=D.V.head.lt
 have dl:=pZ ok
 have WK:=cV ok
 have wl:d.2.1.length=d.1.length:=WK.len
 refine v168 b1 g w d.2.2 false a c h K D.V fun b2 h1 dK f1 bY=> ?_
 have f1:=f1.aF
 have z1:=f1.size
 have Ag:=bY.head.lt
 refine fK _ fun x h2 o2 f2=>⟨x,rfl,bY.aB f2,?_⟩
 have z2:=f2.size
 have E7:=f1.aA f2
 refine rZ (D.G.rd.no E7) o2.rd _ fun h3 f3=>⟨_,rfl,(bY.aB f2).aB f3,?_⟩
 have z3:=f3.size
 have gq:=E7.aA f3
 have cF:=(bY.aB f2).aB f3
 have D3:=D.no gq
 have eb:(aM d.1&&[a].all (iq 0 ((d.1.length:Int)-1)))=(aM d.1&&iq 0 ((d.1.length:Int)-1) a):=by simp
 rw[eb]
 have n2:∀{k:Nat},In [b2] k->k=b2:=fun hk=>by simpa[In]using hk
 have fail:(aM d.1&&iq 0 ((d.1.length:Int)-1) a&&iq 0 (((d.1.getD a.toNat []).length:Int)-1) c)=false->∀{X Y:Heap}{t:ByteArray},Fr No h3 X->Fr (In [b2]) X Y->Vars Y [(b2,[VS t,VB false]),(b1,[g.v,w.v,VI d.2.2,VB false])]->K (.agg #[VS ⟨#[]⟩,VB false]) Y:=fun e X Y t fX fY V=>by
  refine HK _ Y ⟨⟨#[]⟩,false,g,w,d.2.2,false,rfl,aW (L:=[_]) V,?_,?_⟩
  ·exact(gq.aA fX).aB.trans (fY.mono fun k _ hk=> .inr (by have:=n2 hk;omega))
  ·unfold PE BG
   rw[if_neg (by rw[e];exact Bool.false_ne_true)]
   exact⟨rfl,rfl⟩
 refine⟨fun e gK f12 tX=> ?_,fun e=> ?_⟩
 ·have e:(aM d.1&&iq 0 ((d.1.length:Int)-1) a)=false:=bD e
  exact fail (by rw[e,Bool.false_and]) (Fr.refl _ _) f12 tX
 have e:(aM d.1&&iq 0 ((d.1.length:Int)-1) a)=true:=aZ e
 have ea:=aX.1 (Bool.and_eq_true_iff.1 e).2
 have hg:=(Bool.and_eq_true_iff.1 e).1
 obtain⟨si,c1,r1⟩:=D3.G.rd.get (i:=a) ha.1 (by omega)
 have rn:=r1.len
 have gk:=(aT hg (List.getElem_mem (show a.toNat<d.1.length by omega))).1
 have eg:d.1.getD a.toNat []=d.1[a.toNat]'(by omega):=aS (by omega)
 refine⟨D3.G.rd.bB ha.1 (by omega),si,c1,?_⟩
 rw[rn,aG _ (by omega) (by omega)]
 refine eJ _ _ _ h3 _ ⟨_,rfl,cF,fun e2 h5 f5 gh=> ?_,fun e2=> ?_⟩
 ·refine fail ?_ (Fr.refl _ _) f5 gh
  rw[e,Bool.true_and,eg]
  exact bD e2
 have e2':iq 0 (((d.1[a.toNat]'(by omega)).length:Int)-1) c=true:=aZ e2
 refine ic (cM.no D.W.rd gq) d.2.2 (by omega) _ fun t h6 o6 f6=>⟨t,_,rfl,cF.aB f6,?_⟩
 have z6:=f6.size
 have tn:t.n=d.2.1.length:=by have:=o6.rd.len;simpa using this.symm
 refine⟨o6.bB ha.1 (by omega),fun b3 h8 iR f8 fO=> ?_⟩
 have f8:=f8.aF
 have z8:=f8.size
 have W8:=Ow.no o6 f8
 obtain⟨w1,w2,w3⟩:=W8.eX (i:=a) ha.1 (by omega) (VI c)
 have off:∀p,p∈[(b3,[t.v,VI d.2.2]),(b2,[VS (⟨#[]⟩:ByteArray),VB false]),(b1,[g.v,w.v,VI d.2.2,VB false])]->¬t.own p.1:=fun p hp hk=>by
  have h1:=(o6.aH hk)
  have:=h1.1.1
  have:=h1.2
  simp only[List.mem_cons,List.not_mem_nil,or_false]at hp
  rcases hp with rfl|rfl|rfl
  ·simp only at*;omega
  ·simp only at*;omega
  ·simp only at*;omega
 refine⟨w1,fO.fr w3 off,fun h9 e9 fP=> ?_⟩
 subst e9
 have z9:=w3.size
 have W9:bR (Mx.cK h8 (t.at a 1) (VI c)) (Iv h3.size h6.size) t (d.2.1.set a.toNat c):=by show Ow _ _ _ _ _ _;rw[List.map_set];exact w2
 have P8:Fr (fun k=>k=b1\/h.size<=k) h (Mx.cK h8 (t.at a 1) (VI c)):=((gq.aA f6).aA f8).aB.trans (w3.mono fun k _ hk=> .inr (by have:=(o6.aH hk).1.1;omega))
 have akn:Fr (fun k=>lo<=k) h (Mx.cK h8 (t.at a 1) (VI c)):=P8.mono fun k _ hk=>by have:=D.lb;rcases hk with h|h<;>omega
 have rb:∀x,x∈d.2.1.set a.toNat c-> -9223372036854775808<=x/\x<=9223372036854775807:=fun x hx=>by
  rcases List.mem_or_eq_of_mem_set hx with hx|rfl
  ·exact uS ok x hx
  ·omega
 have sm:=(fQ WK).2
 refine DY (GL.next akn) D.lb (by omega) (aW (L:=[_,_]) fP) W9.eQ (fun k hk=>by have:=hk.1;omega) rb (by rw[List.length_set];omega) (by omega) _ fun dV f10 V10=> ?_
 refine⟨g,t,d.2.2,false,_,true,rfl,fP.set (i:=2) rfl f10 V10.head,fun hH f11 iu=>HK _ hH ?_⟩
 have fB:Fr (fun k=>k=b1\/h.size<=k) h hH:=(P8.trans (f10.mono fun k _ hk=> .inl hk)).trans (f11.mono fun k _ hk=> .inr (by have:=n2 hk;omega))
 refine⟨_,true,g,t,d.2.2,false,rfl,aW (L:=[_,_]) iu,fB,?_⟩
 unfold PE BG
 rw[if_pos (by rw[e,Bool.true_and,eg];exact e2')]
 have W11:=Ow.fr (Ow.fr W9 f10 fun k hk aI=>by have:=(W9.aH hk).1.1;omega) f11 fun k hk aI=>by have h1:=(W9.aH hk).1.1;have:=n2 aI;omega
 exact⟨rfl,rfl,by rw[p4 (s:=(d.2.1.set a.toNat c,d.2.2)) (by rw[List.length_set];exact dl.1)],rfl,D.Z9 (n:=h.size) (Nat.le_refl _) (aW (L:=[_,_]) iu) fB (W11.mono fun k _ hk=>by have:=hk.1;omega)⟩
theorem TH{h:Heap}{s:Sl}{sep:ByteArray}(hs:s.n=0)(K:Value->Heap->Prop)(HK:K (VS ⟨#[]⟩) h):aE Tryz.prog 90 #[s.v,VS sep] h K:=by
 refine⟨fun w hw=> .inr ⟨90,_,w,Go.Proofs.enters_of Tryz.func90 (by kernel_rfl) rfl _ _,rfl,?_⟩⟩
 subst hw
 have hv:s.v= .slice s.a 0 s.c:=by unfold Sl.v;rw[hs]
 rw[hv]
 refine(Tryz.strings_Join_none s.a s.c sep w).mono ?_
 rintro e w' ⟨rfl,rfl⟩
 exact⟨_,rfl,cN.refl _,HK⟩
theorem DZ{S:Nat->Prop}{h:Heap}{s:Sl}(H:bU S h s [])(K:Value->Heap->Prop)(HK:∀h',Fr No h h'->K (VS ⟨#[]⟩) h'):aE Tryz.prog 51 #[.agg #[s.v]] h K:=by
 have sn:s.n=0:=H.len
 refine v51 s h K fun b1 h1 eD f1 bY=> ?_
 have f1:=f1.aF
 refine aP Mc (fun k=>h1.size<=k) (fun _ h=>h) 0 (by omega) [] rfl rfl fun o h2 n2 c2 o2 f2 m2 _=>⟨o,rfl,bY.aB f2,?_⟩
 refine⟨fun m x i h'=>x=o/\i=0/\h'=h2,⟨0,rfl,rfl,rfl⟩,?_⟩
 rintro m _ _ _ ⟨rfl,rfl,rfl⟩ cF
 refine⟨fun e=>by rw[sn]at e;simp at e,fun e=>TH n2 _ ⟨_,rfl,cF,HK _ (f1.aA f2)⟩⟩
theorem D5{g:List (List Int)}{p q:Int}(h:(gP g p q).2=true):aM (gP g p q).1=true:=by
 unfold gP at h⊢
 split at h
 ·rename_i hc
  rw[if_pos hc]
  unfold j5
  have h:aM (g.set p.toNat (g.getD p.toNat []++[q]))=true:=h
  (try simp only)
  rw[if_pos h]
  exact h
 ·cases h
theorem TI{g:List (List Int)}{p q:Int}(h:(gP g p q).2=false):(gP g p q).1=[]:=by
 unfold gP at h⊢
 split
 ·rename_i hc
  rw[if_pos hc]at h
  have h:aM (g.set p.toNat (g.getD p.toNat []++[q]))=false:=h
  show j5 _=[]
  unfold j5
  rw[if_neg (by rw[h];exact Bool.false_ne_true)]
 ·rfl
theorem aaa{lo:Nat}{h:Heap}(sV:lo<=h.size){b1:Nat}{g w:Sl}{d:Dk}{F F' Z:Nat->Prop}(D:nX lo h b1 g w d false F F' Z)(a c:Int)(K:Value->Heap->Prop)(HK:∀v h',iV lo h b1 Z (some (UF d a c)) v h'->K v h'):aE Tryz.prog 167 #[VP b1 0,VI a,VI c] h K:=by
 have lb:=D.V.head.lt
 refine v167 b1 g w d.2.2 false a c h K D.V fun b2 h1 dK f1 bY=> ?_
 have f1:=f1.aF
 have z1:=f1.size
 have Ag:=bY.head.lt
 refine K0 (D.G.rd.no f1) a c _ fun t h2 o2 f2=>⟨t,_,rfl,bY.aB f2,fun b3 h4 iR f4 dS=> ?_⟩
 have f4:=f4.aF
 have z2:=f2.size
 have z4:=f4.size
 have jx:=(f1.aA f2).aA f4
 have n1:∀{k:Nat},In [b1] k->k=b1:=fun hk=>by simpa[In]using hk
 have n2:∀{k:Nat},In [b2] k->k=b2:=fun hk=>by simpa[In]using hk
 obtain⟨bb,hb⟩:∃bb,bb=(gP d.1 a c).2:=⟨_,rfl⟩
 rw[<-hb]
 have G4:=o2.no f4
 refine⟨fun x1 x2 x3 x4 h'=>x1=(if bb=true then t else g)/\x2=w/\x3=d.2.2/\x4=false/\Fr (fun k=>k=b1) h4 h',⟨fun e h5 f5 gh=>⟨by rw[if_pos e],rfl,rfl,rfl,f5.mono fun k _ hk=>n1 hk⟩,fun e=>⟨by rw[if_neg (by rw[e];decide)],rfl,rfl,rfl,Fr.refl _ _⟩⟩,?_⟩
 rintro _ x2 _ _ h6 ⟨rfl,rfl,rfl,rfl,f6⟩ jG
 have z6:=f6.size
 have G6:=G4.fr f6 fun k _ hk aI=>by have:=hk.1;omega
 have fin:∀{tx:ByteArray}{h7:Heap},Fr No h6 h7->(bb=true->tx=⟨(tT (gP d.1 a c).1).toArray⟩)->Vars h7 [(b3,[t.v]),(b2,[VS (⟨#[]⟩:ByteArray),VB false]),(b1,[(if bb=true then t else g).v,x2.v,VI d.2.2,VB false])]/\∀h8:Heap,Fr (In [b2]) h7 h8->Vars h8 [(b3,[t.v]),(b2,[VS tx,VB bb]),(b1,[(if bb=true then t else g).v,x2.v,VI d.2.2,VB false])]->K (.agg #[VS tx,VB bb]) h8:=fun{tx h7} f7 htx=>⟨jG.aB f7,fun h8 f8 fO=>by
  have fB:Fr (fun k=>k=b1\/h.size<=k) h h8:=((jx.aB.trans (f6.mono fun k _ hk=> .inl hk)).trans f7.aB).trans (f8.mono fun k _ hk=> .inr (by have:=n2 hk;omega))
  refine HK _ h8 ⟨tx,bb,_,x2,d.2.2,false,rfl,aW (L:=[_,_]) fO,fB,?_⟩
  unfold UF
  rw[<-hb]
  cases bb with
  |false=>exact⟨rfl,rfl⟩
  |true=>
   have G8:=(G6.no f7).fr f8 fun k _ hk aI=>by have:=hk.1;have:=n2 aI;omega
   exact⟨rfl,rfl,htx rfl,rfl,D.akm (n:=h.size) (Nat.le_refl _) (aW (L:=[_,_]) fO) fB (G8.mono fun k _ hk=>by have:=hk.1;omega)⟩⟩
 cases RZ:bb with
 |true=>
  subst RZ
  have gb:=D5 hb.symm
  refine oX G6.rd (jg gb) (aO gb).1 _ fun h7 f7=>⟨_,rfl,fin f7 fun _=>rfl⟩
 |false=>
  subst RZ
  rw[TI hb.symm]at G6
  refine DZ G6.rd _ fun h7 f7=>⟨_,rfl,fin f7 fun e=>by cases e⟩
theorem PH{lo:Nat}{h:Heap}(GL:fE lo h)(sV:lo<=h.size){b1:Nat}{g w:Sl}{d:Dk}{F F' Z:Nat->Prop}(D:nX lo h b1 g w d false F F' Z){s:ByteArray}(hs:s.size<=100000)(K:Value->Heap->Prop)(HK:∀v h',iV lo h b1 Z (ZX s.data.toList) v h'->K v h'):aE Tryz.prog 111 #[VP b1 0,VS s] h K:=by
 have lb:=D.V.head.lt
 have ll:=D.lb
 refine aeH b1 g w d.2.2 false s h K D.V fun b2 h1 dK f1 bY=> ?_
 have f1:=f1.aF
 have z1:=f1.size
 have Ag:=bY.head.lt
 refine CJ (GL.no f1).here hs _ fun t h2 o2 f2=>⟨t,_,rfl,bY.aB f2,fun e b3 h6 iR f6 jG=> ?_,fun e b3 h4 iR f4 dS=> ?_⟩
 ·have E7:=f1.aA f2
  have z2:=f2.size
  refine HK _ h6 ⟨_,_,g,w,d.2.2,true,rfl,aW (L:=[_,_]) jG,E7.aB.trans (f6.mono fun k _ hk=>by simp only[In,List.mem_cons,List.not_mem_nil,or_false]at hk;omega),?_⟩
  have:oW s.data.toList=none:=by
   cases hp:oW s.data.toList with
   |none=>rfl
   |some x=>unfold qf at e;rw[hp]at e;cases e
  unfold ZX
  rw[this]
 obtain⟨x,hp⟩:∃x,oW s.data.toList=some x:=by
  cases hp:oW s.data.toList with
  |none=>unfold qf at e;rw[hp]at e;cases e
  |some x=>exact⟨x,rfl⟩
 have ep:(qf s).1=x:=by unfold qf;rw[hp]
 rw[ep]at o2
 obtain⟨gb,_⟩:=wy hp
 have gl:=aO gb
 have f4:=f4.aF
 have z2:=f2.size
 have z4:=f4.size
 have Vw:=dS.head.lt
 have jx:=(f1.aA f2).aA f4
 refine EX (o2.no f4) (by omega) _ fun u h7 G7 W7 f7=>⟨t,u,0,rfl,dS.aB f7,fun h8 f8 fO=> ?_⟩
 have z7:=f7.size
 have n1:∀{k:Nat},In [b1] k->k=b1:=fun hk=>by simpa[In]using hk
 have n2:∀{k:Nat},In [b2] k->k=b2:=fun hk=>by simpa[In]using hk
 have z8:=f8.size
 have G8:=G7.fr f8 fun k _ hk aI=>by have:=hk.1.1;have:=n1 aI;omega
 have W8:=Ow.fr W7 f8 fun k hk aI=>by have:=(W7.aH hk).1;have:=n1 aI;omega
 refine oX G8.rd (jg gb) gl.1 _ fun h9 f9=>⟨_,rfl,fO.aB f9,fun dV f10 dL=> ?_⟩
 have z9:=f9.size
 have fB:Fr (fun k=>k=b1\/h.size<=k) h dV:=(((jx.aB.trans f7.aB).trans (f8.mono fun k _ hk=>by have:=n1 hk;omega)).trans f9.aB).trans (f10.mono fun k _ hk=>by have:=n2 hk;omega)
 refine HK _ dV ⟨_,_,t,u,0,false,rfl,aW (L:=[_,_]) dL,fB,?_⟩
 unfold ZX
 rw[hp]
 refine⟨rfl,rfl,rfl,rfl,fun k=>Iv h1.size h2.size k,fun k=>h4.size<=k,aW (L:=[_,_]) dL,?_,?_,fun k hk=>⟨by have:=hk.1;omega,fun hx=>by have:=hk.1;have:=D.xh k hx;omega⟩,fun k hk=>⟨by omega,fun hx=>by have:=D.xh k hx;omega⟩,fun k hk aI=>by have:=hk.2;omega,D.lb,D.xb,fun k hk=>by have:=D.xh k hk;have:=fB.size;omega⟩
 ·exact((G8.no f9).fr f10 fun k _ hk aI=>by have:=hk.1.1;have:=n2 aI;omega).mono fun k _ hk=>hk.1
 ·exact Ow.fr (Ow.no W8 f9) f10 fun k hk aI=>by have:=(W8.aH hk).1;have:=n2 aI;omega
end Go.Proofs.YtcnfcnoooecchaaGreatDoor
