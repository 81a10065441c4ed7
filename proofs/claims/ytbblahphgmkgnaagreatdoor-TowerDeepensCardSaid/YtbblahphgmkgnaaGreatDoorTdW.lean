/- What the tower's functions leave behind, call by call: states, and rows that lead from one to another. No conditions. -/
import Derived.Test.YtbblahphgmkgnaaGreatDoorVJ
namespace Go.Proofs.YtbblahphgmkgnaaGreatDoor
open Go.VM
noncomputable section
open Go.VM.D8 (d0 d1 d2 d3 d4 d5 d6 d7)
abbrev KQ:=Key.mk
def tys:List Nat:=[121, 215, 323, 313, 329, 391]
def k0:=KQ d0 d0 d0 d0 d1
def k1:=KQ d1 d0 d0 d0 d1
def k2:=KQ d2 d0 d0 d0 d1
def k3:=KQ d3 d0 d0 d0 d1
def k4:=KQ d4 d0 d0 d0 d1
def k5:=KQ d5 d0 d0 d0 d1
def k6:=KQ d6 d0 d0 d0 d1
def k7:=KQ d7 d0 d0 d0 d1
def k8:=KQ d0 d1 d0 d0 d1
def k9:=KQ d1 d1 d0 d0 d1
def ka:=KQ d2 d1 d0 d0 d1
def kb:=KQ d3 d1 d0 d0 d1
def kc:=KQ d4 d1 d0 d0 d1
def kd:=KQ d5 d1 d0 d0 d1
def ke:=KQ d6 d1 d0 d0 d1
def kf:=KQ d7 d1 d0 d0 d1
def kg:=KQ d0 d2 d0 d0 d1
def kh:=KQ d1 d2 d0 d0 d1
def ki:=KQ d2 d2 d0 d0 d1
def kj:=KQ d3 d2 d0 d0 d1
def kk:=KQ d4 d2 d0 d0 d1
def kl:=KQ d5 d2 d0 d0 d1
def km:=KQ d6 d2 d0 d0 d1
def kn:=KQ d7 d2 d0 d0 d1
def ko:=KQ d0 d3 d0 d0 d1
def kp:=KQ d1 d3 d0 d0 d1
def kq:=KQ d2 d3 d0 d0 d1
def kr:=KQ d3 d3 d0 d0 d1
def ks:=KQ d4 d3 d0 d0 d1
def kt:=KQ d5 d3 d0 d0 d1
def ku:=KQ d6 d3 d0 d0 d1
def kv:=KQ d7 d3 d0 d0 d1
def kw:=KQ d0 d4 d0 d0 d1
def kx:=KQ d1 d4 d0 d0 d1
def ky:=KQ d2 d4 d0 d0 d1
def kz:=KQ d3 d4 d0 d0 d1
def k10:=KQ d4 d4 d0 d0 d1
def k11:=KQ d5 d4 d0 d0 d1
def k12:=KQ d6 d4 d0 d0 d1
def k13:=KQ d7 d4 d0 d0 d1
def k14:=KQ d0 d5 d0 d0 d1
def k15:=KQ d1 d5 d0 d0 d1
def k16:=KQ d2 d5 d0 d0 d1
def k17:=KQ d3 d5 d0 d0 d1
def k18:=KQ d4 d5 d0 d0 d1
def k19:=KQ d5 d5 d0 d0 d1
def k1a:=KQ d6 d5 d0 d0 d1
def k1b:=KQ d7 d5 d0 d0 d1
def k1c:=KQ d0 d6 d0 d0 d1
def k1d:=KQ d1 d6 d0 d0 d1
def k1e:=KQ d2 d6 d0 d0 d1
def k1f:=KQ d3 d6 d0 d0 d1
def k1g:=KQ d4 d6 d0 d0 d1
def k1h:=KQ d5 d6 d0 d0 d1
def k1i:=KQ d6 d6 d0 d0 d1
def k1j:=KQ d7 d6 d0 d0 d1
def k1k:=KQ d0 d7 d0 d0 d1
def k1l:=KQ d1 d7 d0 d0 d1
def k1m:=KQ d2 d7 d0 d0 d1
def k1n:=KQ d3 d7 d0 d0 d1
def k1o:=KQ d4 d7 d0 d0 d1
def k1p:=KQ d5 d7 d0 d0 d1
def k1q:=KQ d6 d7 d0 d0 d1
def k1r:=KQ d7 d7 d0 d0 d1
def k1s:=KQ d0 d0 d1 d0 d1
def k1t:=KQ d1 d0 d1 d0 d1
def k1u:=KQ d2 d0 d1 d0 d1
def k1v:=KQ d3 d0 d1 d0 d1
def k1w:=KQ d4 d0 d1 d0 d1
def k1x:=KQ d5 d0 d1 d0 d1
def k1y:=KQ d6 d0 d1 d0 d1
def k1z:=KQ d7 d0 d1 d0 d1
def k20:=KQ d0 d1 d1 d0 d1
def k21:=KQ d1 d1 d1 d0 d1
def k22:=KQ d2 d1 d1 d0 d1
def k23:=KQ d3 d1 d1 d0 d1
def k24:=KQ d4 d1 d1 d0 d1
def k25:=KQ d5 d1 d1 d0 d1
def k26:=KQ d6 d1 d1 d0 d1
def k27:=KQ d7 d1 d1 d0 d1
def k28:=KQ d0 d2 d1 d0 d1
def k29:=KQ d1 d2 d1 d0 d1
def k2a:=KQ d2 d2 d1 d0 d1
def k2b:=KQ d3 d2 d1 d0 d1
def k2c:=KQ d4 d2 d1 d0 d1
def k2d:=KQ d5 d2 d1 d0 d1
def k2e:=KQ d6 d2 d1 d0 d1
def k2f:=KQ d7 d2 d1 d0 d1
def k2g:=KQ d0 d3 d1 d0 d1
def k2h:=KQ d1 d3 d1 d0 d1
def k2i:=KQ d2 d3 d1 d0 d1
def k2j:=KQ d3 d3 d1 d0 d1
def k2k:=KQ d4 d3 d1 d0 d1
def k2l:=KQ d5 d3 d1 d0 d1
def k2m:=KQ d6 d3 d1 d0 d1
def k2n:=KQ d7 d3 d1 d0 d1
def k2o:=KQ d0 d4 d1 d0 d1
def k2p:=KQ d1 d4 d1 d0 d1
def k2q:=KQ d2 d4 d1 d0 d1
def k2r:=KQ d3 d4 d1 d0 d1
def k2s:=KQ d4 d4 d1 d0 d1
def k2t:=KQ d5 d4 d1 d0 d1
def k2u:=KQ d6 d4 d1 d0 d1
def k2v:=KQ d7 d4 d1 d0 d1
def k2w:=KQ d0 d5 d1 d0 d1
def k2x:=KQ d1 d5 d1 d0 d1
def k2y:=KQ d2 d5 d1 d0 d1
def k2z:=KQ d3 d5 d1 d0 d1
def k30:=KQ d4 d5 d1 d0 d1
def k31:=KQ d5 d5 d1 d0 d1
def k32:=KQ d6 d5 d1 d0 d1
def k33:=KQ d7 d5 d1 d0 d1
def k34:=KQ d0 d6 d1 d0 d1
def k35:=KQ d1 d6 d1 d0 d1
def k36:=KQ d2 d6 d1 d0 d1
def k37:=KQ d3 d6 d1 d0 d1
def k38:=KQ d4 d6 d1 d0 d1
def k39:=KQ d5 d6 d1 d0 d1
def k3a:=KQ d6 d6 d1 d0 d1
def cl (i o:Int) (p q:AV) (f g n m:Int) (d:AV):List AV:=[.ptr k0 0,.agg [.int .i64 6,.str 0 0,.str 0 0,.str 0 0,.nilSlice,.int .i64 i,.int .i64 o,p,q,.int .i64 f,.int .i64 g,.int .i64 n,.int .i64 m,d]]
def an (s n k m:Int) (d ns:AV):AV:=.tup [.agg [.int .i64 0,.int .i64 0,.int .i64 0,.str 0 0,.nilSlice,.nilSlice,.int .i64 s,.int .i64 n,.int .i64 k,.int .i64 m,d,ns,.int .i64 0,.int .i64 0],.int .i64 0]
def S0 (x0 x1:Key) (y0 y1:AV):Key × AObj:=(x0,.cells 92 [.slice x1 0 4194304 (.is 4194304),.bool false,.bool false,y0,y1] false 0)
def S1 (x0 x1 x2 x3 x4:Key) (y0 y1:AV):Key × AObj:=(x0,.cells 178 [.ptr x1 0,.ptr x2 0,.ptr x3 0,y0,.nilPtr,.nilPtr,.nilPtr,.nilPtr,.nilPtr,.nilPtr,.nilPtr,.nilPtr,.slice x4 0 16384 (.is 16384),y1,.bool false] false 0)
def S2 (x0:Key):Key × AObj:=(x0,.map [] 0)
def S3 (x0:Key) (y0 y1:AV):Key × AObj:=(x0,.cells 3 [y0,y1] true 0)
def S4 (x0:Key) (y0:AV):Key × AObj:=(x0,.cells 3 [y0] true 0)
def S5 (x0:Key):Key × AObj:=(x0,.cells 281 [.ustr 256,.bool false,.int .i64 0,.bool true] false 0)
def S6 (x0 x1 x2 x3 x4 x5 x6 x7:Key) (y0:AV):Key × AObj:=(x0,.cells 69 [.ptr x1 0,.ptr x2 0,.ptr x3 0,.ptr x4 0,.map x5,.map x6,y0,.bool false,.slice x7 0 1 (.more 5)] false 0)
def S7 (x0 x1 x2:Key):Key × AObj:=(x0,.cells 145 [.slice x1 0 1 (.more 4),.slice x2 0 1 (.more 4)] true 0)
def S8 (x0 x1:Key) (y0 y1 y2:AV):Key × AObj:=(x0,.cells 147 [.slice x1 0 1 (.more 4),y0,y1,y2,.nilSlice] false 0)
def S9 (x0:Key):Key × AObj:=(x0,.cells 199 [.str 1 100,.int .i64 1,.int .i64 493,.str 0 0] true 0)
def Sa (x0:Key):Key × AObj:=(x0,.cells 199 [.str 1 100,.int .i64 4,.int .i64 0,.str 0 0] true 0)
def Sb (x0:Key):Key × AObj:=(x0,.cells 281 [.ustr 256,.bool false,.int .i64 0,.bool false] false 0)
def Sc (x0 x1 x2:Key) (y0 y1 y2 y3 y4 y5 y6:AV):Key × AObj:=(x0,.cells 276 [y0,y1,y2,.ptr x1 0,y3,.nilMap,.nilSlice,.nilSlice,.slice x2 0 1 (.is 1),y4,y5,y6] false 0)
def Sd (x0:Key) (y0:AV):Key × AObj:=(x0,.cells 3 [y0] false 0)
def Se (x0:Key):Key × AObj:=(x0,.cells 3 [.int .i64 50] false 0)
def Sf (x0:Key):Key × AObj:=(x0,.cells 3 [.int .i64 52] false 0)
def Sg (x0 x1 x2:Key) (y0:AV):Key × AObj:=(x0,.cells 329 [.ptr x1 0,.ptr x2 0,.nilPtr,.nilPtr,.nilPtr,.nilPtr,.nilPtr,.nilPtr,.nilPtr,.nilPtr,y0] false 0)
def Sh (x0:Key):Key × AObj:=(x0,.lmap [])
def Si (x0:Key):Key × AObj:=(x0,.cells 3 [.int .i64 51] false 0)
def Sj (x0:Key) (y0 y1 y2 y3 y4 y5:AV):Key × AObj:=(x0,.map [(y0,.agg [y1,y2],0),(y3,.agg [y4,y5],1)] 2)
def Sk (x0 x1 x2:Key):Key × AObj:=(x0,.cells 276 [.int .i64 2,.int .i64 63,.str 5 435744240755,.ptr x1 0,.int .i64 2,.nilMap,.nilSlice,.nilSlice,.slice x2 0 1 (.is 1),.int .i64 0,.int .i64 0,.int .i64 0] false 0)
def Sl (x0:Key):Key × AObj:=(x0,.bits 4 16384 42784196460019711)
def Sm (x0 x1 x2 x3 x4 x5:Key):Key × AObj:=(x0,.cells 173 [.ptr x1 0,.ptr x2 0,.ptr x3 0,.ptr x4 0,.ptr x5 0] true 0)
def Sn (x0 x1 x2:Key):Key × AObj:=(x0,.cells 276 [.int .i64 2,.int .i64 63,.str 5 435744240755,.ptr x1 0,.int .i64 0,.nilMap,.nilSlice,.nilSlice,.slice x2 0 1 (.is 1),.int .i64 0,.int .i64 0,.int .i64 0] false 0)
def So (x0:Key):Key × AObj:=(x0,.cells 3 [.int .i64 55] false 0)
def Sp (x0 x1 x2:Key):Key × AObj:=(x0,.cells 329 [.ptr x1 0,.ptr x2 0,.nilPtr,.nilPtr,.nilPtr,.nilPtr,.nilPtr,.nilPtr,.nilPtr,.nilPtr,.int .i64 1] false 0)
def Sq (x0 x1:Key) (y0:AV):Key × AObj:=(x0,.lmap [(y0,.ptr x1 0)])
def Sr (x0 x1 x2:Key) (y0 y1 y2 y3:AV):Key × AObj:=(x0,.cells 391 [y0,y1,y2,.map x1,.ptr x2 0,y3] false 0)
def Ss (x0:Key):Key × AObj:=(x0,.bits 4 16384 22517998136852479)
def St (x0:Key):Key × AObj:=(x0,.cells 3 [.int .i64 54] false 0)
def Su (x0 x1:Key):Key × AObj:=(x0,.lmap [(.str 1 121,.ptr x1 0)])
def Sv (x0 x1 x2:Key):Key × AObj:=(x0,.cells 391 [.int .i64 1,.int .i64 420,.str 0 0,.map x1,.ptr x2 0,.str 1 121] false 0)
def Sw (x0:Key):Key × AObj:=(x0,.bits 4 16384 43910096366862335)
def Sx (x0 x1 x2:Key):Key × AObj:=(x0,.cells 276 [.int .i64 2,.int .i64 63,.str 5 435744240755,.ptr x1 0,.int .i64 1,.nilMap,.nilSlice,.nilSlice,.slice x2 0 1 (.is 1),.int .i64 0,.int .i64 0,.int .i64 0] false 0)
def Sy (x0 x1 x2:Key):Key × AObj:=(x0,.cells 329 [.ptr x1 0,.ptr x2 0,.nilPtr,.nilPtr,.nilPtr,.nilPtr,.nilPtr,.nilPtr,.nilPtr,.nilPtr,.int .i64 2] false 0)
def Sz (x0 x1 x2:Key):Key × AObj:=(x0,.lmap [(.str 1 116,.ptr x1 0),(.str 1 120,.ptr x2 0)])
def S10 (x0 x1 x2:Key):Key × AObj:=(x0,.cells 391 [.int .i64 1,.int .i64 420,.str 0 0,.map x1,.ptr x2 0,.str 1 116] false 0)
def S11 (x0 x1 x2 x3 x4 x5 x6 x7:Key):Key × AObj:=(x0,.cells 69 [.ptr x1 0,.ptr x2 0,.ptr x3 0,.ptr x4 0,.map x5,.map x6,.int .i64 6,.bool false,.slice x7 0 1 (.more 5)] false 0)
def S12 (x0 x1:Key):Key × AObj:=(x0,.cells 92 [.slice x1 0 4194304 (.is 4194304),.bool false,.bool false,.int .i64 (-252),.int .i64 252] false 0)
def S13 (x0:Key):Key × AObj:=(x0,.map [(.int .i64 1,.agg [.str 12 14909942882012283808127726898,.int .i64 6],0),(.int .i64 2,.agg [.str 12 14909942882012283808127726898,.int .i64 5],1)] 2)
def S14 (x0:Key):Key × AObj:=(x0,.bits 4 16384 24769797950537727)
def S15 (x0:Key):Key × AObj:=(x0,.map [] 76)
def S16 (x0 x1 x2 x3:Key):Key × AObj:=(x0,.map [(.str 6 52970723816053,.ptr x1 0,14),(.str 6 52970740593013,.ptr x2 0,17),(.str 5 435744240755,.ptr x3 0,19)] 20)
def S17 (x0 x1:Key):Key × AObj:=(x0,.lmap [(.str 1 116,.ptr x1 0)])
def S18 (x0 x1 x2:Key):Key × AObj:=(x0,.cells 329 [.ptr x1 0,.ptr x2 0,.nilPtr,.nilPtr,.nilPtr,.nilPtr,.nilPtr,.nilPtr,.nilPtr,.nilPtr,.int .i64 3] false 0)
def S19 (x0 x1 x2 x3 x4 x5 x6 x7:Key):Key × AObj:=(x0,.cells 69 [.ptr x1 0,.ptr x2 0,.ptr x3 0,.ptr x4 0,.map x5,.map x6,.int .i64 7,.bool false,.slice x7 0 1 (.more 5)] false 0)
def S1a (x0 x1:Key):Key × AObj:=(x0,.cells 92 [.slice x1 0 4194304 (.is 4194304),.bool false,.bool false,.int .i64 (-282),.int .i64 282] false 0)
def S1b (x0:Key):Key × AObj:=(x0,.map [(.int .i64 1,.agg [.str 12 14909942882012283808127726898,.int .i64 7],0),(.int .i64 2,.agg [.str 12 14909942882012283808127726898,.int .i64 5],1)] 2)
def S1c (x0:Key):Key × AObj:=(x0,.map [] 85)
def S1d (x0 x1 x2 x3:Key):Key × AObj:=(x0,.map [(.str 6 52970723816053,.ptr x1 0,14),(.str 6 52970757370229,.ptr x2 0,20),(.str 5 435744240755,.ptr x3 0,22)] 23)
def S1e (x0 x1 x2 x3 x4 x5 x6 x7:Key):Key × AObj:=(x0,.cells 69 [.ptr x1 0,.ptr x2 0,.ptr x3 0,.ptr x4 0,.map x5,.map x6,.int .i64 8,.bool false,.slice x7 0 1 (.more 5)] false 0)
def S1f (x0 x1:Key):Key × AObj:=(x0,.cells 92 [.slice x1 0 4194304 (.is 4194304),.bool false,.bool false,.int .i64 (-312),.int .i64 312] false 0)
def S1g (x0:Key):Key × AObj:=(x0,.map [] 94)
def S1h (x0 x1 x2:Key):Key × AObj:=(x0,.lmap [(.str 2 13167,.ptr x1 0),(.str 2 13935,.ptr x2 0)])
def S1i (x0 x1 x2:Key):Key × AObj:=(x0,.cells 391 [.int .i64 1,.int .i64 0,.str 0 0,.map x1,.ptr x2 0,.str 2 13935] false 0)
def S1j (x0 x1 x2:Key):Key × AObj:=(x0,.cells 329 [.ptr x1 0,.ptr x2 0,.nilPtr,.nilPtr,.nilPtr,.nilPtr,.nilPtr,.nilPtr,.nilPtr,.nilPtr,.int .i64 4] false 0)
def S1k (x0:Key):Key × AObj:=(x0,.map [(.int .i64 1,.agg [.str 12 14909942882012283808127726898,.int .i64 8],0),(.int .i64 2,.agg [.str 12 14909942882012283808127726898,.int .i64 5],1)] 2)
def S1l (x0 x1 x2 x3:Key):Key × AObj:=(x0,.map [(.str 6 52970723816053,.ptr x1 0,14),(.str 6 52970774147445,.ptr x2 0,23),(.str 5 435744240755,.ptr x3 0,25)] 26)
def S1m (x0 x1 x2:Key):Key × AObj:=(x0,.cells 276 [.int .i64 2,.int .i64 47,.str 6 52970774147445,.ptr x1 0,.int .i64 1,.nilMap,.nilSlice,.nilSlice,.slice x2 0 1 (.is 1),.int .i64 0,.int .i64 0,.int .i64 0] false 0)
def S1n (x0 x1 x2 x3 x4 x5 x6 x7:Key):Key × AObj:=(x0,.cells 69 [.ptr x1 0,.ptr x2 0,.ptr x3 0,.ptr x4 0,.map x5,.map x6,.int .i64 9,.bool false,.slice x7 0 1 (.more 5)] false 0)
def S1o (x0 x1:Key):Key × AObj:=(x0,.cells 92 [.slice x1 0 4194304 (.is 4194304),.bool false,.bool false,.int .i64 (-342),.int .i64 342] false 0)
def S1p (x0:Key):Key × AObj:=(x0,.map [(.int .i64 1,.agg [.str 12 14909942882012283808127726898,.int .i64 8],0),(.int .i64 2,.agg [.str 12 14909942882012283808127726898,.int .i64 9],1)] 2)
def S1q (x0:Key):Key × AObj:=(x0,.bits 4 16384 40532396646334463)
def S1r (x0:Key):Key × AObj:=(x0,.map [] 103)
def S1s (x0 x1 x2 x3:Key):Key × AObj:=(x0,.map [(.str 6 52970774147445,.ptr x1 0,23),(.str 6 52970790924917,.ptr x2 0,26),(.str 5 435744240755,.ptr x3 0,28)] 29)
def S1t (x0 x1 x2:Key):Key × AObj:=(x0,.cells 276 [.int .i64 2,.int .i64 21,.str 6 52970790924917,.ptr x1 0,.int .i64 0,.nilMap,.nilSlice,.nilSlice,.slice x2 0 1 (.is 1),.int .i64 0,.int .i64 0,.int .i64 0] false 0)
def S1u (x0 x1 x2:Key):Key × AObj:=(x0,.cells 329 [.ptr x1 0,.ptr x2 0,.nilPtr,.nilPtr,.nilPtr,.nilPtr,.nilPtr,.nilPtr,.nilPtr,.nilPtr,.int .i64 5] false 0)
def S1v (x0 x1 x2 x3 x4 x5 x6 x7:Key):Key × AObj:=(x0,.cells 69 [.ptr x1 0,.ptr x2 0,.ptr x3 0,.ptr x4 0,.map x5,.map x6,.int .i64 10,.bool false,.slice x7 0 1 (.more 5)] false 0)
def S1w (x0 x1:Key):Key × AObj:=(x0,.cells 92 [.slice x1 0 4194304 (.is 4194304),.bool false,.bool false,.int .i64 (-372),.int .i64 372] false 0)
def S1x (x0:Key):Key × AObj:=(x0,.map [(.int .i64 1,.agg [.str 12 14909942882012283808127726898,.int .i64 10],0),(.int .i64 2,.agg [.str 12 14909942882012283808127726898,.int .i64 9],1)] 2)
def S1y (x0:Key):Key × AObj:=(x0,.bits 4 16384 25895697857380351)
def S1z (x0:Key):Key × AObj:=(x0,.map [] 112)
def S20 (x0 x1 x2 x3:Key):Key × AObj:=(x0,.map [(.str 6 52970790924917,.ptr x1 0,26),(.str 7 13560483888836981,.ptr x2 0,29),(.str 5 435744240755,.ptr x3 0,31)] 32)
def S21 (x0 x1 x2:Key):Key × AObj:=(x0,.cells 276 [.int .i64 2,.int .i64 63,.str 7 13560483888836981,.ptr x1 0,.int .i64 2,.nilMap,.nilSlice,.nilSlice,.slice x2 0 1 (.is 1),.int .i64 0,.int .i64 0,.int .i64 0] false 0)
def S22 (x0 x1 x2:Key):Key × AObj:=(x0,.cells 329 [.ptr x1 0,.ptr x2 0,.nilPtr,.nilPtr,.nilPtr,.nilPtr,.nilPtr,.nilPtr,.nilPtr,.nilPtr,.int .i64 6] false 0)
def S23 (x0 x1 x2 x3 x4 x5 x6 x7:Key):Key × AObj:=(x0,.cells 69 [.ptr x1 0,.ptr x2 0,.ptr x3 0,.ptr x4 0,.map x5,.map x6,.int .i64 11,.bool false,.slice x7 0 1 (.more 5)] false 0)
def S24 (x0 x1:Key):Key × AObj:=(x0,.cells 92 [.slice x1 0 4194304 (.is 4194304),.bool false,.bool false,.int .i64 (-402),.int .i64 402] false 0)
def S25 (x0:Key):Key × AObj:=(x0,.map [(.int .i64 1,.agg [.str 12 14909942882012283808127726898,.int .i64 11],0),(.int .i64 2,.agg [.str 12 14909942882012283808127726898,.int .i64 9],1)] 2)
def S26 (x0:Key):Key × AObj:=(x0,.map [] 121)
def S27 (x0 x1 x2 x3:Key):Key × AObj:=(x0,.map [(.str 6 52970790924917,.ptr x1 0,26),(.str 7 13560488183804277,.ptr x2 0,32),(.str 5 435744240755,.ptr x3 0,34)] 35)
def S28 (x0 x1 x2:Key):Key × AObj:=(x0,.cells 276 [.int .i64 2,.int .i64 81,.str 7 13560488183804277,.ptr x1 0,.int .i64 1,.nilMap,.nilSlice,.nilSlice,.slice x2 0 1 (.is 1),.int .i64 0,.int .i64 0,.int .i64 0] false 0)
def S29 (x0 x1 x2 x3 x4 x5 x6 x7:Key):Key × AObj:=(x0,.cells 69 [.ptr x1 0,.ptr x2 0,.ptr x3 0,.ptr x4 0,.map x5,.map x6,.int .i64 12,.bool false,.slice x7 0 1 (.more 5)] false 0)
def S2a (x0 x1:Key):Key × AObj:=(x0,.cells 92 [.slice x1 0 4194304 (.is 4194304),.bool false,.bool false,.int .i64 (-432),.int .i64 432] false 0)
def S2b (x0:Key):Key × AObj:=(x0,.map [(.int .i64 1,.agg [.str 12 14909942882012283808127726898,.int .i64 11],0),(.int .i64 2,.agg [.str 12 14909942882012283808127726898,.int .i64 12],1)] 2)
def S2c (x0:Key):Key × AObj:=(x0,.map [] 130)
def S2d (x0 x1 x2 x3:Key):Key × AObj:=(x0,.map [(.str 7 13560488183804277,.ptr x1 0,32),(.str 7 13560492478771829,.ptr x2 0,35),(.str 5 435744240755,.ptr x3 0,37)] 38)
def S2e (x0 x1 x2 x3:Key):Key × AObj:=(x0,.lmap [(.str 2 13167,.ptr x1 0),(.str 2 13935,.ptr x2 0),(.str 2 14703,.ptr x3 0)])
def S2f (x0 x1 x2:Key):Key × AObj:=(x0,.cells 276 [.int .i64 2,.int .i64 30,.str 7 13560492478771829,.ptr x1 0,.int .i64 2,.nilMap,.nilSlice,.nilSlice,.slice x2 0 1 (.is 1),.int .i64 0,.int .i64 0,.int .i64 0] false 0)
def S2g (x0 x1 x2:Key):Key × AObj:=(x0,.cells 391 [.int .i64 1,.int .i64 0,.str 0 0,.map x1,.ptr x2 0,.str 2 14703] false 0)
def S2h (x0 x1 x2:Key):Key × AObj:=(x0,.cells 329 [.ptr x1 0,.ptr x2 0,.nilPtr,.nilPtr,.nilPtr,.nilPtr,.nilPtr,.nilPtr,.nilPtr,.nilPtr,.int .i64 7] false 0)
def S2i (x0:Key):Key × AObj:=(x0,.map [(.int .i64 1,.agg [.str 12 14909942882012283808127726898,.int .i64 12],0),(.int .i64 2,.agg [.str 12 14909942882012283808127726898,.int .i64 9],1)] 2)
def S2j (x0 x1 x2 x3:Key):Key × AObj:=(x0,.map [(.str 6 52970790924917,.ptr x1 0,26),(.str 7 13560492478771573,.ptr x2 0,35),(.str 5 435744240755,.ptr x3 0,37)] 38)
def S2k (x0 x1 x2:Key):Key × AObj:=(x0,.cells 276 [.int .i64 2,.int .i64 101,.str 7 13560492478771573,.ptr x1 0,.int .i64 2,.nilMap,.nilSlice,.nilSlice,.slice x2 0 1 (.is 1),.int .i64 0,.int .i64 0,.int .i64 0] false 0)
def S2l (x0 x1 x2 x3 x4 x5 x6 x7:Key):Key × AObj:=(x0,.cells 69 [.ptr x1 0,.ptr x2 0,.ptr x3 0,.ptr x4 0,.map x5,.map x6,.int .i64 13,.bool false,.slice x7 0 1 (.more 5)] false 0)
def S2m (x0 x1:Key):Key × AObj:=(x0,.cells 92 [.slice x1 0 4194304 (.is 4194304),.bool false,.bool false,.int .i64 (-462),.int .i64 462] false 0)
def S2n (x0:Key):Key × AObj:=(x0,.map [(.int .i64 1,.agg [.str 12 14909942882012283808127726898,.int .i64 12],0),(.int .i64 2,.agg [.str 12 14909942882012283808127726898,.int .i64 13],1)] 2)
def S2o (x0:Key):Key × AObj:=(x0,.map [] 139)
def S2p (x0 x1 x2 x3:Key):Key × AObj:=(x0,.map [(.str 7 13560492478771573,.ptr x1 0,35),(.str 7 13560496773739125,.ptr x2 0,38),(.str 5 435744240755,.ptr x3 0,40)] 41)
def S2q (x0 x1 x2:Key):Key × AObj:=(x0,.cells 276 [.int .i64 2,.int .i64 30,.str 7 13560496773739125,.ptr x1 0,.int .i64 1,.nilMap,.nilSlice,.nilSlice,.slice x2 0 1 (.is 1),.int .i64 0,.int .i64 0,.int .i64 0] false 0)
def S2r (x0 x1 x2:Key):Key × AObj:=(x0,.cells 329 [.ptr x1 0,.ptr x2 0,.nilPtr,.nilPtr,.nilPtr,.nilPtr,.nilPtr,.nilPtr,.nilPtr,.nilPtr,.int .i64 8] false 0)
def S2s (x0 x1 x2 x3 x4 x5 x6 x7:Key):Key × AObj:=(x0,.cells 69 [.ptr x1 0,.ptr x2 0,.ptr x3 0,.ptr x4 0,.map x5,.map x6,.int .i64 14,.bool false,.slice x7 0 1 (.more 5)] false 0)
def S2t (x0 x1:Key):Key × AObj:=(x0,.cells 92 [.slice x1 0 4194304 (.is 4194304),.bool false,.bool false,.int .i64 (-492),.int .i64 492] false 0)
def S2u (x0:Key):Key × AObj:=(x0,.map [(.int .i64 1,.agg [.str 12 14909942882012283808127726898,.int .i64 14],0),(.int .i64 2,.agg [.str 12 14909942882012283808127726898,.int .i64 13],1)] 2)
def S2v (x0:Key):Key × AObj:=(x0,.map [] 148)
def S2w (x0 x1 x2 x3:Key):Key × AObj:=(x0,.map [(.str 7 13560496773739125,.ptr x1 0,38),(.str 7 13560501068706165,.ptr x2 0,41),(.str 5 435744240755,.ptr x3 0,43)] 44)
def S2x (x0 x1 x2:Key):Key × AObj:=(x0,.cells 276 [.int .i64 2,.int .i64 123,.str 7 13560501068706165,.ptr x1 0,.int .i64 0,.nilMap,.nilSlice,.nilSlice,.slice x2 0 1 (.is 1),.int .i64 0,.int .i64 0,.int .i64 0] false 0)
def S2y (x0 x1:Key):Key × AObj:=(x0,.lmap [(.str 1 98,.ptr x1 0)])
def S2z (x0 x1 x2:Key):Key × AObj:=(x0,.cells 391 [.int .i64 1,.int .i64 420,.str 0 0,.map x1,.ptr x2 0,.str 1 98] false 0)
def Z0:List AV:=cl 1 13 (.str 2 30767) (.str 2 31023) 0 0 0 0 (.str 0 0)
def Z1:List AV:=cl 2 6 (.str 2 13167) (.str 0 0) 0 0 0 0 (.str 0 0)
def Z2:List AV:=cl 1 1 (.str 2 30767) (.str 0 0) 0 0 0 0 (.str 0 0)
def Z3:List AV:=cl 1 3 (.str 2 31023) (.str 0 0) 0 0 0 0 (.str 0 0)
def Z4:List AV:=cl 1 6 (.str 2 29743) (.str 0 0) 0 0 0 420 (.str 6 127978876068212)
def Z5:List AV:=cl 1 13 (.str 2 30767) (.str 4 2033153071) 0 0 0 0 (.str 0 0)
def Z6:List AV:=cl 1 3 (.str 4 2033153071) (.str 0 0) 0 0 0 0 (.str 0 0)
def Z7:List AV:=cl 1 6 (.str 4 1949266991) (.str 0 0) 0 0 0 420 (.str 6 127978876068212)
def Z8:List AV:=cl 1 13 (.str 2 30767) (.str 6 133244719690799) 0 0 0 0 (.str 0 0)
def Z9:List AV:=cl 2 6 (.str 2 13935) (.str 0 0) 0 0 0 0 (.str 0 0)
def Za:List AV:=cl 1 3 (.str 6 133244719690799) (.str 0 0) 0 0 0 0 (.str 0 0)
def Zb:List AV:=cl 1 6 (.str 6 127747161551919) (.str 0 0) 0 0 0 420 (.str 6 127978876068212)
def Zc:List AV:=cl 1 13 (.str 2 30767) (.str 8 8732325949656233007) 0 0 0 0 (.str 0 0)
def Zd:List AV:=cl 1 3 (.str 8 8732325949656233007) (.str 0 0) 0 0 0 0 (.str 0 0)
def Ze:List AV:=cl 1 6 (.str 8 8372037979466593327) (.str 0 0) 0 0 0 420 (.str 6 127978876068212)
def Zf:List AV:=cl 1 13 (.str 2 30767) (.str 10 572281713436670886376495) 0 0 0 0 (.str 0 0)
def Zg:List AV:=cl 1 3 (.str 10 572281713436670886376495) (.str 0 0) 0 0 0 0 (.str 0 0)
def Zh:List AV:=cl 1 6 (.str 10 548669881022322660308015) (.str 0 0) 0 0 0 420 (.str 6 127978876068212)
def Zi:List AV:=cl 1 13 (.str 2 30767) (.str 12 37505054371785663209570006063) 0 0 0 0 (.str 0 0)
def Zj:List AV:=cl 2 6 (.str 2 14703) (.str 0 0) 0 0 0 0 (.str 0 0)
def Zk:List AV:=cl 1 3 (.str 12 37505054371785663209570006063) (.str 0 0) 0 0 0 0 (.str 0 0)
def Zl:List AV:=cl 1 6 (.str 12 35957629322678937865946100783) (.str 0 0) 0 0 0 420 (.str 6 127978876068212)
def Zm:List AV:=cl 1 13 (.str 2 30767) (.str 14 2457931243309345224102379917374511) 0 0 0 0 (.str 0 0)
def Zn:List AV:=cl 1 6 (.str 14 2356519195291086871982643660944431) (.str 0 0) 0 0 0 420 (.str 6 127978876068212)
def Zo:List AV:=cl 1 13 (.str 2 30767) (.str 16 161082981961521248606773570265055982639) 0 0 0 0 (.str 0 0)
def Zp:List AV:=cl 2 6 (.str 3 3289455) (.str 0 0) 0 0 0 0 (.str 0 0)
def Zq:List AV:=cl 1 1 (.str 8 7074981495272601647) (.str 0 0) 0 0 0 0 (.str 0 0)
def Zr:AV:=an 0 0 0 0 (.str 0 0) .nilSlice
def Zs:AV:=an 1 0 0 0 (.str 0 0) .nilSlice
def Zt:AV:=an 8 0 0 0 (.str 0 0) .nilSlice
def Zu:AV:=an 0 0 1 420 (.str 0 0) .nilSlice
def Zv:List (Key × AObj):=[(ke,.dead),(k2f,.dead),(k1i,.dead)]
def Zw:List (Key × AObj):=[(ke,.dead),(k2a,.dead),(k1i,.dead)]
def Zx:List (Key × AObj):=[(ke,.dead)]
def Zy:List (Key × AObj):=[(ke,.dead),(k2a,.dead),(k1i,.dead),(k1y,.dead)]
def Zz:List (Key × AObj):=[(ke,.dead),(k1x,.dead),(k1i,.dead),(k1y,.dead)]
def Z10:List (Key × AObj):=[(ke,.dead),(k2b,.dead)]
def Z11:List (Key × AObj):=[(ke,.dead),(k2f,.dead),(k1i,.dead),(k1y,.dead)]
def Z12:List (Key × AObj):=[(ke,.dead),(k2a,.dead),(k1i,.dead),(k1y,.dead),(k2b,.dead)]
def Z13:List (Key × AObj):=[(ke,.dead),(k2f,.dead),(k1i,.dead),(k1y,.dead),(k2b,.dead)]
def Z14:List (Key × AObj):=[(ke,.dead),(k1x,.dead),(k1i,.dead),(k2b,.dead)]
def Z15:List (Key × AObj):=[(ke,.dead),(k1x,.dead),(k1i,.dead),(k1y,.dead),(k2b,.dead)]
def Z16:List (Key × AObj):=[(ke,.dead),(k1x,.dead),(k1i,.dead)]
def Z17:List (Key × AObj):=[(ke,.dead),(k1y,.dead),(k2b,.dead)]
def Z18:List Key:=[k5,k6,k1i,k1l]
def Z19:List Key:=[k1x,k1z,k0,k1,ka,km,ku,k1e,k1f,k1n,k21]
def Z1a:List Key:=[k2f,k2g,k0,k1,ka,km,ku,k1e,k2e]
def Z1b:List Key:=[k2a,k2c,k0,k1,ka,km,ku,k1e]
def Z1c:List Key:=[k1x,k1z,k0,k1,ka,km,ku,k1e]
def Z1d:List Key:=[k2f,k2g,k0,k1,ka,km,ku,k1e]
def Z1e:Key × AObj:=Si k1z
def Z1f:Key × AObj:=Sk k1i kr k1l
def Z1g:Key × AObj:=Se k2c
def Z1h:Key × AObj:=Sm k1e k1i k2a k2f k1i k1i
def Z1i:Key × AObj:=Sn k1i kr k1l
def Z1j:Key × AObj:=So k1l
def Z1k:Key × AObj:=Sf k2g
def Z1l:Key × AObj:=Sh k2i
def Z1m:Key × AObj:=S6 k0 k1 k2 k3 k4 k5 k6 kv (.int .i64 4)
def Z1n:Key × AObj:=S0 k1 k7 (.int .i64 (-192)) (.int .i64 192)
def Z1o:Key × AObj:=Sj k6 (.int .i64 1) (.str 12 14909942882012283808127726898) (.int .i64 4) (.int .i64 2) (.str 12 14909942882012283808127726898) (.int .i64 2)
def Z1p:Key × AObj:=Sm k1e k1x k2a k1i k1i k1i
def Z1q:Key × AObj:=S3 k1f (.int .i64 49) (.int .i64 53)
def Z1r:Key × AObj:=St k1l
def Z1s:Key × AObj:=S6 k0 k1 k2 k3 k4 k5 k6 kv (.int .i64 5)
def Z1t:Key × AObj:=S0 k1 k7 (.int .i64 (-222)) (.int .i64 222)
def Z1u:Key × AObj:=Sj k6 (.int .i64 1) (.str 12 14909942882012283808127726898) (.int .i64 4) (.int .i64 2) (.str 12 14909942882012283808127726898) (.int .i64 5)
def Z1v:Key × AObj:=Sm k1e k1x k1i k2f k1i k1i
def Z1w:Key × AObj:=Sx k1i kr k1l
def Z1x:Key × AObj:=Sc k2f kr k2g (.int .i64 2) (.int .i64 12) (.str 6 52970723816053) (.int .i64 2) (.int .i64 0) (.int .i64 0) (.int .i64 0)
def Z1y:Key × AObj:=S11 k0 k1 k2 k3 k4 k5 k6 kv
def Z1z:Key × AObj:=S14 ka
def Z20:Key × AObj:=S16 ku k2f k2a k1i
def Z21:Key × AObj:=S17 k1y k2j
def Z22:Key × AObj:=S19 k0 k1 k2 k3 k4 k5 k6 kv
def Z23:Key × AObj:=S1d ku k2f k1x k1i
def Z24:Key × AObj:=Sc k1x kr k1z (.int .i64 2) (.int .i64 33) (.str 6 52970757370229) (.int .i64 0) (.int .i64 0) (.int .i64 0) (.int .i64 0)
def Z25:Key × AObj:=S1e k0 k1 k2 k3 k4 k5 k6 kv
def Z26:Key × AObj:=S1f k1 k7
def Z27:Key × AObj:=Sj k6 (.int .i64 1) (.str 12 14909942882012283808127726898) (.int .i64 7) (.int .i64 2) (.str 12 14909942882012283808127726898) (.int .i64 8)
def Z28:Key × AObj:=Sy k24 k27 k27
def Z29:Key × AObj:=Sc k2a kr k2c (.int .i64 2) (.int .i64 21) (.str 6 52970774147701) (.int .i64 1) (.int .i64 0) (.int .i64 0) (.int .i64 0)
def Z2a:Key × AObj:=S1h k2b k2l k2h
def Z2b:Key × AObj:=S1i k2h k2i k27
def Z2c:Key × AObj:=S1l ku k2f k2a k1i
def Z2d:Key × AObj:=S1n k0 k1 k2 k3 k4 k5 k6 kv
def Z2e:Key × AObj:=S1o k1 k7
def Z2f:Key × AObj:=S1q ka
def Z2g:Key × AObj:=S1s ku k2a k1x k1i
def Z2h:Key × AObj:=S1t k1x kr k1z
def Z2i:Key × AObj:=S1v k0 k1 k2 k3 k4 k5 k6 kv
def Z2j:Key × AObj:=S1w k1 k7
def Z2k:Key × AObj:=S1y ka
def Z2l:Key × AObj:=S20 ku k1x k2f k1i
def Z2m:Key × AObj:=S21 k2f kr k2g
def Z2n:Key × AObj:=S23 k0 k1 k2 k3 k4 k5 k6 kv
def Z2o:Key × AObj:=S24 k1 k7
def Z2p:Key × AObj:=S27 ku k1x k2a k1i
def Z2q:Key × AObj:=S28 k2a kr k2c
def Z2r:Key × AObj:=S29 k0 k1 k2 k3 k4 k5 k6 kv
def Z2s:Key × AObj:=S2a k1 k7
def Z2t:Key × AObj:=S2d ku k2a k2f k1i
def Z2u:Key × AObj:=S18 k24 k27 k27
def Z2v:Key × AObj:=S2e k2b k2l k2t k2h
def Z2w:Key × AObj:=S2g k2h k2i k27
def Z2x:Key × AObj:=S2j ku k1x k2f k1i
def Z2y:Key × AObj:=S2l k0 k1 k2 k3 k4 k5 k6 kv
def Z2z:Key × AObj:=S2m k1 k7
def Z30:Key × AObj:=S2p ku k2f k2a k1i
def Z31:Key × AObj:=S2q k2a kr k2c
def Z32:Key × AObj:=S2e k2b k2l k2t k31
def Z33:Key × AObj:=S2s k0 k1 k2 k3 k4 k5 k6 kv
def Z34:Key × AObj:=S2w ku k2a k1x k1i
def Z35:Key × AObj:=S17 k1y k2n
def Z36:Key × AObj:=S2z k2z k30 k2x
def Z37:Key × AObj:=S2y k30 k31
def Z38:Key × AObj:=S2z k31 k32 k2z
def Z39:Key × AObj:=S6 k0 k1 k2 k3 k4 k5 k6 kv (.int .i64 16)
def Z3a:Key × AObj:=S0 k1 k7 (.int .i64 (-552)) (.int .i64 552)
def s0:RT AObj:=updS [(k0,.cells 69 [.ptr k1 0,.ptr k2 0,.ptr k3 0,.ptr k4 0,.map k5,.map k6,.int .i64 0,.bool false,.nilSlice] false 0),S0 k1 k7 (.int .i64 (-16)) (.int .i64 16),S1 k2 k1 k8 k9 ka (.int .i64 3) (.int .i64 16338),(k3,.cells 142 [.ptr kb 0,.ptr k2 0,.map kc] false 0),(k4,.cells 121 [.map kd,.map ke,.func (.func 64) [.ptr k0 0] [],.int .i64 0] false 0),S2 k5,S2 k6,(k7,.bytes 5 4194304),(k8,.cells 271 [.ptr kf 0,.int .i64 512,.map kg,.slice kh 0 2 (.more 1)] false 0),(k9,.cells 276 [.int .i64 1,.int .i64 0,.str 0 0,.nilPtr,.int .i64 0,.map ki,.slice kj 0 3 (.more 1),.slice kk 0 1 (.more 1),.nilSlice,.int .i64 0,.int .i64 0,.int .i64 0] false 0),(ka,.bits 4 16384 70368744177663),(kb,.cells 258 [.ptr k2 0,.map kl] false 0),S2 kc,S2 kd,S2 ke,(kf,.cells 155 [.ptr k1 0,.int .i64 1,.int .i64 44,.map km,.bool false] false 0),(kg,.map [(.int .i64 0,.ptr kn 0,0),(.int .i64 45,.ptr ko 0,1)] 2),S3 kh (.int .i64 0) (.int .i64 45),(ki,.map [(.str 5 495572708450,.ptr kp 0,0),(.str 6 126935165919596,.ptr kq 0,1),(.str 5 491328597876,.ptr kr 0,2)] 3),(kj,.cells 173 [.ptr kp 0,.ptr kq 0,.ptr kr 0] true 0),S4 kk (.int .i64 45),S2 kl,(km,.map [] 4),S5 kn,S5 ko,(kp,.cells 276 [.int .i64 1,.int .i64 0,.str 5 495572708450,.ptr k9 0,.int .i64 0,.map ks,.nilSlice,.nilSlice,.nilSlice,.int .i64 0,.int .i64 0,.int .i64 0] false 0),(kq,.cells 276 [.int .i64 1,.int .i64 0,.str 6 126935165919596,.ptr k9 0,.int .i64 1,.map kt,.nilSlice,.nilSlice,.nilSlice,.int .i64 0,.int .i64 0,.int .i64 0] false 0),(kr,.cells 276 [.int .i64 1,.int .i64 0,.str 5 491328597876,.ptr k9 0,.int .i64 2,.map ku,.nilSlice,.nilSlice,.nilSlice,.int .i64 0,.int .i64 0,.int .i64 0] false 0),S2 ks,S2 kt,S2 ku] RT.nil
def s1:RT AObj:=updS [S6 k0 k1 k2 k3 k4 k5 k6 kv (.int .i64 0),S0 k1 k7 (.int .i64 (-72)) (.int .i64 72),S1 k2 k1 k8 k9 ka (.int .i64 6) (.int .i64 16333),(k5,.map [(.str 1 116,.str 12 14909942882012283808127726898,0)] 1),(k8,.cells 271 [.ptr kf 0,.int .i64 512,.map kg,.slice kh 0 7 (.more 1)] false 0),(ka,.bits 4 16384 2251799813685247),(kc,.map [(.str 12 14909952252669478796797554994,.ptr ky 0,0),(.str 12 14909942882012283808127726898,.ptr kz 0,1)] 2),(kd,.map [(.str 1 116,.agg [.slice k10 0 2 (.more 1)],0)] 1),(kg,.map [(.int .i64 0,.ptr kn 0,0),(.int .i64 45,.ptr ko 0,1),(.int .i64 46,.ptr k13 0,2),(.int .i64 47,.ptr k14 0,3),(.int .i64 48,.ptr k15 0,4),(.int .i64 49,.ptr k16 0,5),(.int .i64 50,.ptr k17 0,6)] 7),(kh,.cells 3 [.int .i64 0,.int .i64 45,.int .i64 46,.int .i64 47,.int .i64 48,.int .i64 49,.int .i64 50] true 0),(km,.map [] 22),(kq,.cells 276 [.int .i64 1,.int .i64 0,.str 6 126935165919596,.ptr k9 0,.int .i64 1,.map kt,.slice k1c 0 2 (.more 1),.slice k1d 0 1 (.more 1),.nilSlice,.int .i64 0,.int .i64 0,.int .i64 0] false 0),(kr,.cells 276 [.int .i64 1,.int .i64 0,.str 5 491328597876,.ptr k9 0,.int .i64 2,.map ku,.slice k1e 0 1 (.more 1),.slice k1f 0 1 (.more 1),.nilSlice,.int .i64 0,.int .i64 0,.int .i64 0] false 0),(kt,.map [(.str 12 14909952252669478796797554994,.ptr k1g 0,1),(.str 12 14909942882012283808127726898,.ptr k1h 0,3)] 4),(ku,.map [(.str 5 435744240755,.ptr k1i 0,1)] 2),(kv,.cells 203 [.str 31 104481335786327267040345892488766287127177228565394820989683512661121135206,.nilSlice,.int .i64 20000,.map kw,.slice kx 0 2 (.more 1)] true 0),S2 kw,S7 kx k11 k12,S8 ky k18 (.str 0 0) (.int .i64 0) (.int .i64 1),S8 kz k19 (.str 12 14909952252669478796797554994) (.int .i64 1) (.int .i64 0),S7 k10 k1a k1b,S9 k11,Sa k12,S5 k13,S5 k14,Sb k15,S5 k16,Sb k17,S9 k18,Sa k19,S9 k1a,Sa k1b,(k1c,.cells 173 [.ptr k1g 0,.ptr k1h 0] true 0),S4 k1d (.int .i64 46),(k1e,.cells 173 [.ptr k1i 0] true 0),S4 k1f (.int .i64 49),Sc k1g kq k1j (.int .i64 2) (.int .i64 12) (.str 12 14909952252669478796797554994) (.int .i64 0) (.int .i64 0) (.int .i64 0) (.int .i64 0),Sc k1h kq k1k (.int .i64 2) (.int .i64 24) (.str 12 14909942882012283808127726898) (.int .i64 1) (.int .i64 0) (.int .i64 0) (.int .i64 0),Sc k1i kr k1l (.int .i64 2) (.int .i64 19) (.str 5 435744240755) (.int .i64 0) (.int .i64 0) (.int .i64 0) (.int .i64 0),Sd k1j (.int .i64 47),Sd k1k (.int .i64 48),Se k1l] s0
def s2:RT AObj:=updS [S6 k0 k1 k2 k3 k4 k5 k6 kv (.int .i64 1),S0 k1 k7 (.int .i64 (-102)) (.int .i64 102),S1 k2 k1 k8 k9 ka (.int .i64 7) (.int .i64 16332),(k6,.map [(.int .i64 1,.agg [.str 12 14909942882012283808127726898,.int .i64 1],0)] 1),(k8,.cells 271 [.ptr kf 0,.int .i64 512,.map kg,.slice kh 0 9 (.more 1)] false 0),(ka,.bits 4 16384 7881299347898367),(ke,.map [(.int .i64 1,.ptr k1m 0,0)] 1),(kg,.map [(.int .i64 0,.ptr kn 0,0),(.int .i64 45,.ptr ko 0,1),(.int .i64 46,.ptr k13 0,2),(.int .i64 47,.ptr k14 0,3),(.int .i64 48,.ptr k15 0,4),(.int .i64 49,.ptr k16 0,5),(.int .i64 50,.ptr k17 0,6),(.int .i64 51,.ptr k1n 0,7),(.int .i64 52,.ptr k1o 0,8)] 9),(kh,.cells 3 [.int .i64 0,.int .i64 45,.int .i64 46,.int .i64 47,.int .i64 48,.int .i64 49,.int .i64 50,.int .i64 51,.int .i64 52] true 0),(km,.map [] 31),(kr,.cells 276 [.int .i64 1,.int .i64 0,.str 5 491328597876,.ptr k9 0,.int .i64 2,.map ku,.slice k1e 0 2 (.more 1),.slice k1f 0 1 (.more 1),.nilSlice,.int .i64 0,.int .i64 0,.int .i64 0] false 0),(ku,.map [(.str 6 52970656706933,.ptr k1x 0,2),(.str 5 435744240755,.ptr k1i 0,4)] 5),S8 kz k19 (.str 12 14909952252669478796797554994) (.int .i64 2) (.int .i64 0),S5 k15,(k1e,.cells 173 [.ptr k1x 0,.ptr k1i 0,.ptr k1i 0] true 0),Sc k1i kr k1l (.int .i64 2) (.int .i64 41) (.str 5 435744240755) (.int .i64 1) (.int .i64 0) (.int .i64 0) (.int .i64 0),Sf k1l,(k1m,.cells 215 [.ptr k1p 0,.ptr k1q 0,.ptr k1r 0,.slice k1s 0 2 (.more 1),.nilSlice] false 0),Sb k1n,Sb k1o,(k1p,.cells 323 [.slice k1t 0 1 (.more 4),.int .i64 0,.int .i64 20000,.int .i64 0,.nilSlice,.bool false,.str 0 0,.float .f64 0,.bool false,.str 0 0,.float .f64 0,.bool false,.str 0 0,.float .f64 0,.bool false,.str 0 0,.float .f64 0,.bool false,.str 0 0,.float .f64 0,.bool false,.str 0 0,.float .f64 0,.bool false,.str 0 0,.float .f64 0,.bool false,.str 0 0,.float .f64 0,.bool false,.str 0 0,.float .f64 0,.bool false,.str 0 0,.float .f64 0,.bool false,.str 0 0,.float .f64 0,.bool false,.str 0 0,.float .f64 0,.bool false,.str 0 0,.float .f64 0,.bool false,.str 0 0,.float .f64 0,.bool false,.str 0 0,.float .f64 0,.bool false,.str 0 0,.float .f64 0,.bool false,.str 0 0,.float .f64 0,.bool false,.str 0 0,.float .f64 0,.bool false,.str 0 0,.float .f64 0,.bool false,.str 0 0,.float .f64 0,.bool false,.str 0 0,.float .f64 0,.bool false,.str 0 0,.float .f64 0,.bool false,.str 0 0,.float .f64 0,.bool false,.str 0 0,.float .f64 0,.bool false,.str 0 0,.float .f64 0,.bool false,.str 0 0,.float .f64 0,.bool false,.str 0 0,.float .f64 0,.bool false,.str 0 0,.float .f64 0,.bool false,.str 0 0,.float .f64 0,.bool false,.str 0 0,.float .f64 0,.bool false,.str 0 0,.float .f64 0,.bool false,.str 0 0,.float .f64 0,.bool false,.str 0 0,.float .f64 0,.bool false,.str 0 0,.float .f64 0,.bool false,.str 0 0,.float .f64 0,.bool false,.str 0 0,.float .f64 0,.bool false,.str 0 0,.float .f64 0,.bool false,.str 0 0,.float .f64 0,.bool false,.str 0 0,.float .f64 0,.bool false,.str 0 0,.float .f64 0,.bool false,.str 0 0,.float .f64 0,.bool false,.str 0 0,.float .f64 0,.bool false,.str 0 0,.float .f64 0,.bool false,.str 0 0,.float .f64 0,.bool false,.str 0 0,.float .f64 0,.bool false,.str 0 0,.float .f64 0,.bool false,.str 0 0,.float .f64 0,.bool false,.str 0 0,.float .f64 0,.bool false,.str 0 0,.float .f64 0,.bool false,.str 0 0,.float .f64 0,.bool false,.str 0 0,.float .f64 0,.bool false,.str 0 0,.float .f64 0,.bool false,.str 0 0,.float .f64 0,.bool false,.str 0 0,.float .f64 0,.bool false,.str 0 0,.float .f64 0,.bool false,.str 0 0,.float .f64 0,.bool false,.str 0 0,.float .f64 0,.bool false,.str 0 0,.float .f64 0,.bool false,.str 0 0,.float .f64 0,.bool false,.str 0 0,.float .f64 0,.bool false,.str 0 0,.float .f64 0,.bool false,.str 0 0,.float .f64 0,.bool false,.str 0 0,.float .f64 0,.bool false,.str 0 0,.float .f64 0,.int .i64 0,.int .i64 0,.str 0 0,.str 0 0,.int .i64 0,.int .i64 0,.int .i64 0,.int .i64 0,.str 0 0,.str 0 0,.int .i64 0,.str 0 0] false 0),(k1q,.cells 313 [.nilSlice] false 0),Sg k1r k1u k1u (.int .i64 0),S7 k1s k1v k1w,(k1t,.cells 356 [.int .i64 0,.int .i64 0,.float .f64 0,.str 0 0] true 0),(k1u,.cells 391 [.int .i64 1,.int .i64 493,.str 0 0,.map k1y,.nilPtr,.str 0 0] false 0),S9 k1v,Sa k1w,Sc k1x kr k1z (.int .i64 2) (.int .i64 3) (.str 6 52970656706933) (.int .i64 0) (.int .i64 0) (.int .i64 0) (.int .i64 0),Sh k1y,Z1e] s1
def s3:RT AObj:=updS [S6 k0 k1 k2 k3 k4 k5 k6 kv (.int .i64 2),S0 k1 k7 (.int .i64 (-132)) (.int .i64 132),S1 k2 k1 k8 k9 ka (.int .i64 8) (.int .i64 16331),Sj k6 (.int .i64 1) (.str 12 14909942882012283808127726898) (.int .i64 1) (.int .i64 2) (.str 12 14909942882012283808127726898) (.int .i64 2),(k8,.cells 271 [.ptr kf 0,.int .i64 512,.map kg,.slice kh 0 10 (.more 1)] false 0),(ka,.bits 4 16384 13510798882111487),(ke,.lmap [(.int .i64 1,.ptr k1m 0),(.int .i64 2,.ptr k20 0)]),(kg,.map [(.int .i64 0,.ptr kn 0,0),(.int .i64 45,.ptr ko 0,1),(.int .i64 46,.ptr k13 0,2),(.int .i64 47,.ptr k14 0,3),(.int .i64 48,.ptr k15 0,4),(.int .i64 49,.ptr k16 0,5),(.int .i64 50,.ptr k17 0,6),(.int .i64 51,.ptr k1n 0,7),(.int .i64 52,.ptr k1o 0,8),(.int .i64 53,.ptr k21 0,9)] 10),(kh,.cells 3 [.int .i64 0,.int .i64 45,.int .i64 46,.int .i64 47,.int .i64 48,.int .i64 49,.int .i64 50,.int .i64 51,.int .i64 52,.int .i64 53] true 0),(km,.map [] 40),(kr,.cells 276 [.int .i64 1,.int .i64 0,.str 5 491328597876,.ptr k9 0,.int .i64 2,.map ku,.slice k1e 0 3 (.more 1),.slice k1f 0 1 (.more 1),.nilSlice,.int .i64 0,.int .i64 0,.int .i64 0] false 0),(ku,.map [(.str 6 52970656706933,.ptr k1x 0,2),(.str 6 52970673484405,.ptr k2a 0,5),(.str 5 435744240755,.ptr k1i 0,7)] 8),S8 kz k19 (.str 12 14909952252669478796797554994) (.int .i64 3) (.int .i64 0),S5 k17,(k1e,.cells 173 [.ptr k1x 0,.ptr k2a 0,.ptr k1i 0,.ptr k1i 0] true 0),Z1f,Sd k1l (.int .i64 53),(k20,.cells 215 [.ptr k22 0,.ptr k23 0,.ptr k24 0,.slice k25 0 2 (.more 1),.nilSlice] false 0),Sb k21,(k22,.cells 323 [.slice k26 0 1 (.more 4),.int .i64 0,.int .i64 20000,.int .i64 0,.nilSlice,.bool false,.str 0 0,.float .f64 0,.bool false,.str 0 0,.float .f64 0,.bool false,.str 0 0,.float .f64 0,.bool false,.str 0 0,.float .f64 0,.bool false,.str 0 0,.float .f64 0,.bool false,.str 0 0,.float .f64 0,.bool false,.str 0 0,.float .f64 0,.bool false,.str 0 0,.float .f64 0,.bool false,.str 0 0,.float .f64 0,.bool false,.str 0 0,.float .f64 0,.bool false,.str 0 0,.float .f64 0,.bool false,.str 0 0,.float .f64 0,.bool false,.str 0 0,.float .f64 0,.bool false,.str 0 0,.float .f64 0,.bool false,.str 0 0,.float .f64 0,.bool false,.str 0 0,.float .f64 0,.bool false,.str 0 0,.float .f64 0,.bool false,.str 0 0,.float .f64 0,.bool false,.str 0 0,.float .f64 0,.bool false,.str 0 0,.float .f64 0,.bool false,.str 0 0,.float .f64 0,.bool false,.str 0 0,.float .f64 0,.bool false,.str 0 0,.float .f64 0,.bool false,.str 0 0,.float .f64 0,.bool false,.str 0 0,.float .f64 0,.bool false,.str 0 0,.float .f64 0,.bool false,.str 0 0,.float .f64 0,.bool false,.str 0 0,.float .f64 0,.bool false,.str 0 0,.float .f64 0,.bool false,.str 0 0,.float .f64 0,.bool false,.str 0 0,.float .f64 0,.bool false,.str 0 0,.float .f64 0,.bool false,.str 0 0,.float .f64 0,.bool false,.str 0 0,.float .f64 0,.bool false,.str 0 0,.float .f64 0,.bool false,.str 0 0,.float .f64 0,.bool false,.str 0 0,.float .f64 0,.bool false,.str 0 0,.float .f64 0,.bool false,.str 0 0,.float .f64 0,.bool false,.str 0 0,.float .f64 0,.bool false,.str 0 0,.float .f64 0,.bool false,.str 0 0,.float .f64 0,.bool false,.str 0 0,.float .f64 0,.bool false,.str 0 0,.float .f64 0,.bool false,.str 0 0,.float .f64 0,.bool false,.str 0 0,.float .f64 0,.bool false,.str 0 0,.float .f64 0,.bool false,.str 0 0,.float .f64 0,.bool false,.str 0 0,.float .f64 0,.bool false,.str 0 0,.float .f64 0,.bool false,.str 0 0,.float .f64 0,.bool false,.str 0 0,.float .f64 0,.bool false,.str 0 0,.float .f64 0,.bool false,.str 0 0,.float .f64 0,.bool false,.str 0 0,.float .f64 0,.bool false,.str 0 0,.float .f64 0,.bool false,.str 0 0,.float .f64 0,.bool false,.str 0 0,.float .f64 0,.bool false,.str 0 0,.float .f64 0,.bool false,.str 0 0,.float .f64 0,.bool false,.str 0 0,.float .f64 0,.bool false,.str 0 0,.float .f64 0,.bool false,.str 0 0,.float .f64 0,.bool false,.str 0 0,.float .f64 0,.int .i64 0,.int .i64 0,.str 0 0,.str 0 0,.int .i64 0,.int .i64 0,.int .i64 0,.int .i64 0,.str 0 0,.str 0 0,.int .i64 0,.str 0 0] false 0),(k23,.cells 313 [.nilSlice] false 0),Sg k24 k27 k27 (.int .i64 0),S7 k25 k28 k29,(k26,.cells 356 [.int .i64 0,.int .i64 0,.float .f64 0,.str 0 0] true 0),(k27,.cells 391 [.int .i64 1,.int .i64 493,.str 0 0,.map k2b,.nilPtr,.str 0 0] false 0),S9 k28,Sa k29,Sc k2a kr k2c (.int .i64 2) (.int .i64 3) (.str 6 52970673484405) (.int .i64 1) (.int .i64 0) (.int .i64 0) (.int .i64 0),Sh k2b,Z1g] s2
def s4:RT AObj:=updS [S6 k0 k1 k2 k3 k4 k5 k6 kv (.int .i64 3),S0 k1 k7 (.int .i64 (-162)) (.int .i64 162),Sj k6 (.int .i64 1) (.str 12 14909942882012283808127726898) (.int .i64 3) (.int .i64 2) (.str 12 14909942882012283808127726898) (.int .i64 2),(k8,.cells 271 [.ptr kf 0,.int .i64 512,.map kg,.slice kh 0 12 (.more 1)] false 0),Sl ka,(kg,.map [(.int .i64 0,.ptr kn 0,0),(.int .i64 45,.ptr ko 0,1),(.int .i64 46,.ptr k13 0,2),(.int .i64 47,.ptr k14 0,3),(.int .i64 48,.ptr k15 0,4),(.int .i64 49,.ptr k16 0,5),(.int .i64 50,.ptr k17 0,6),(.int .i64 51,.ptr k1n 0,7),(.int .i64 52,.ptr k1o 0,8),(.int .i64 53,.ptr k21 0,9),(.int .i64 54,.ptr k2d 0,10),(.int .i64 55,.ptr k2e 0,11)] 12),(kh,.cells 3 [.int .i64 0,.int .i64 45,.int .i64 46,.int .i64 47,.int .i64 48,.int .i64 49,.int .i64 50,.int .i64 51,.int .i64 52,.int .i64 53,.int .i64 54,.int .i64 55] true 0),(km,.map [] 49),(ku,.map [(.str 6 52970673484405,.ptr k2a 0,5),(.str 6 52970690261365,.ptr k2f 0,8),(.str 5 435744240755,.ptr k1i 0,10)] 11),Z1h,S3 k1f (.int .i64 49) (.int .i64 54),Z1i,Z1j,S5 k1o,Sp k1r k1u k1u,Sq k1y k2h (.str 1 120),S5 k2d,Sb k2e,Sc k2f kr k2g (.int .i64 2) (.int .i64 11) (.str 6 52970690261365) (.int .i64 2) (.int .i64 0) (.int .i64 0) (.int .i64 0),Z1k,Sr k2h k2i k1u (.int .i64 1) (.int .i64 420) (.str 0 0) (.str 1 120),Z1l] s3
def s5:RT AObj:=updS [Z1m,Z1n,Z1o,Ss ka,(km,.map [] 58),(ku,.map [(.str 6 52970673484405,.ptr k2a 0,5),(.str 6 52970707038581,.ptr k1x 0,11),(.str 5 435744240755,.ptr k1i 0,13)] 14),Z1p,Z1q,Z1f,Z1r,S5 k1n,Sc k1x kr k1z (.int .i64 2) (.int .i64 11) (.str 6 52970707038581) (.int .i64 0) (.int .i64 0) (.int .i64 0) (.int .i64 0),Su k1y k2j,Z1e,S5 k21,Sv k2j k2k k1u,Sh k2k] s4
def s6:RT AObj:=updS [Z1s,Z1t,Z1u,Sw ka,(km,.map [] 67),(ku,.map [(.str 6 52970707038581,.ptr k1x 0,11),(.str 6 52970723816053,.ptr k2f 0,14),(.str 5 435744240755,.ptr k1i 0,16)] 17),Z1v,Z1w,Z1j,Sp k24 k27 k27,Sq k2b k2h (.str 2 13167),S5 k2e,Z1x,Z1k,Sr k2h k2i k27 (.int .i64 1) (.int .i64 0) (.str 0 0) (.str 2 13167),Z1l] s5
def s7:RT AObj:=updS [Z1m,Z1n,Z1o,Ss ka,(km,.map [] 58),(ku,.map [(.str 6 52970673484405,.ptr k2a 0,5),(.str 6 52970707038581,.ptr k1x 0,11),(.str 5 435744240755,.ptr k1i 0,13)] 14),Z1p,Z1q,Z1f,Z1r,S5 k1n,Sy k1r k1u k1u,Sc k1x kr k1z (.int .i64 2) (.int .i64 19) (.str 6 52970707038581) (.int .i64 0) (.int .i64 0) (.int .i64 0) (.int .i64 0),Sz k1y k2j k2h,Z1e,S5 k21,S10 k2j k2k k1u,Sh k2k] s4
def s8:RT AObj:=updS [Z1s,Z1t,Z1u,Sw ka,(km,.map [] 67),(ku,.map [(.str 6 52970707038581,.ptr k1x 0,11),(.str 6 52970723816053,.ptr k2f 0,14),(.str 5 435744240755,.ptr k1i 0,16)] 17),Z1v,Z1w,Z1j,Sp k24 k27 k27,Sq k2b k2l (.str 2 13167),S5 k2e,Z1x,Z1k,Sr k2l k2m k27 (.int .i64 1) (.int .i64 0) (.str 0 0) (.str 2 13167),Sh k2m] s7
def s9:RT AObj:=updS [Z1y,S12 k1 k7,S13 k6,Z1z,S15 km,Z20,Z1h,Z1i,Z1r,Z21,Sc k2a kr k2c (.int .i64 2) (.int .i64 21) (.str 6 52970740593013) (.int .i64 1) (.int .i64 0) (.int .i64 0) (.int .i64 0),Z1g,Su k2k k2n,Sv k2n k2o k2j,Sh k2o] s8
def sa:RT AObj:=updS [Z1y,S12 k1 k7,S13 k6,Z1z,S15 km,Z20,Z1h,Z1i,Z1r,S18 k1r k1u k1u,Sc k2a kr k2c (.int .i64 2) (.int .i64 29) (.str 6 52970740593013) (.int .i64 1) (.int .i64 0) (.int .i64 0) (.int .i64 0),Z1g,S17 k2k k2n,S10 k2n k2o k2j,Sh k2o] s8
def sb:RT AObj:=updS [Z22,S1a k1 k7,S1b k6,Sw ka,S1c km,Z23,Z1v,Z1w,Z1j,Z24,Z21,Z1e,Su k2o k2p,Sv k2p k2q k2n,Sh k2q] sa
def sc:RT AObj:=updS [Z25,Z26,Z27,Ss ka,S1g km,(ku,.map [(.str 6 52970757370229,.ptr k1x 0,20),(.str 6 52970774147701,.ptr k2a 0,23),(.str 5 435744240755,.ptr k1i 0,25)] 26),Z1p,Z1f,Z1r,Z28,Z29,Z2a,Z1g,Z2b,Z1l] sb
def sd:RT AObj:=updS [Z22,S1a k1 k7,S1b k6,Sw ka,S1c km,Z23,Z1v,Z1w,Z1j,S1j k1r k1u k1u,Sc k1x kr k1z (.int .i64 2) (.int .i64 41) (.str 6 52970757370229) (.int .i64 0) (.int .i64 0) (.int .i64 0) (.int .i64 0),Z1e,S17 k2o k2p,S10 k2p k2q k2n,Sh k2q] sa
def se:RT AObj:=updS [Z25,Z26,S1k k6,Z1z,S1g km,Z2c,Z1h,Z1i,Z1r,Z21,S1m k2a kr k2c,Z1g,Su k2q k2r,Sv k2r k2s k2p,Sh k2s] sd
def sf:RT AObj:=updS [Z2d,Z2e,S1p k6,Z2f,S1r km,Z2g,Z1p,Z1f,Z1j,Z2h,Z1e,Z28,Z2a,Z2b,Z1l] se
def sg:RT AObj:=updS [Z25,Z26,S1k k6,Z1z,S1g km,Z2c,Z1h,Z1i,Z1r,S1u k1r k1u k1u,Sc k2a kr k2c (.int .i64 2) (.int .i64 55) (.str 6 52970774147445) (.int .i64 1) (.int .i64 0) (.int .i64 0) (.int .i64 0),Z1g,S17 k2q k2r,S10 k2r k2s k2p,Sh k2s] sd
def sh:RT AObj:=updS [Z2d,Z2e,S1p k6,Z2f,S1r km,Z2g,Z1p,Z1f,Z1j,Z2h,Z1e,Z28,S1h k2b k2l k2t,S1i k2t k2u k27,Sh k2u] sg
def si:RT AObj:=updS [Z2i,Z2j,S1x k6,Z2k,S1z km,Z2l,Z1v,Z1w,Z1r,Z21,Z2m,Z1k,Su k2s k2v,Sv k2v k2w k2r,Sh k2w] sh
def sj:RT AObj:=updS [Z2i,Z2j,S1x k6,Z2k,S1z km,Z2l,Z1v,Z1w,Z1r,S22 k1r k1u k1u,Sc k2f kr k2g (.int .i64 2) (.int .i64 71) (.str 7 13560483888836981) (.int .i64 2) (.int .i64 0) (.int .i64 0) (.int .i64 0),Z1k,S17 k2s k2v,S10 k2v k2w k2r,Sh k2w] sh
def sk:RT AObj:=updS [Z2n,Z2o,S25 k6,Z2f,S26 km,Z2p,Z1p,Z1f,Z1j,Z21,Z2q,Z1g,Su k2w k2x,Sv k2x k2y k2v,Sh k2y] sj
def sl:RT AObj:=updS [Z2r,Z2s,S2b k6,Z1z,S2c km,Z2t,Z1h,Z1i,Z1r,Z2u,Z2v,S2f k2f kr k2g,Z1k,Z2w,Z1l] sk
def sm:RT AObj:=updS [Z2n,Z2o,S25 k6,Z2f,S26 km,Z2p,Z1p,Z1f,Z1j,S2h k1r k1u k1u,Sc k2a kr k2c (.int .i64 2) (.int .i64 89) (.str 7 13560488183804277) (.int .i64 1) (.int .i64 0) (.int .i64 0) (.int .i64 0),Z1g,S17 k2w k2x,S10 k2x k2y k2v,Sh k2y] sj
def sn:RT AObj:=updS [Z2r,Z2s,S2i k6,Z2k,S2c km,Z2x,Z1v,Z1w,Z1r,Z21,S2k k2f kr k2g,Z1k,Su k2y k2z,Sv k2z k30 k2x,Sh k30] sm
def so:RT AObj:=updS [Z2y,Z2z,S2n k6,Sl ka,S2o km,Z30,Z1h,Z1i,Z1j,Z2u,Z31,Z2v,Z1g,Z2w,Z1l] sn
def sp:RT AObj:=updS [Z2r,Z2s,S2i k6,Z2k,S2c km,Z2x,Z1v,Z1w,Z1r,S2r k1r k1u k1u,Sc k2f kr k2g (.int .i64 2) (.int .i64 109) (.str 7 13560492478771573) (.int .i64 2) (.int .i64 0) (.int .i64 0) (.int .i64 0),Z1k,S17 k2y k2z,S10 k2z k30 k2x,Sh k30] sm
def sq:RT AObj:=updS [Z2y,Z2z,S2n k6,Sl ka,S2o km,Z30,Z1h,Z1i,Z1j,Z2u,Z31,Z32,Z1g,S2g k31 k32 k27,Sh k32] sp
def sr:RT AObj:=updS [Z33,S2t k1 k7,S2u k6,Ss ka,S2v km,Z34,Z1p,Z1f,Z1r,S2x k1x kr k1z,Z21,Z1e,Su k30 k33,Sv k33 k34 k2z,Sh k34] sq
def ss:RT AObj:=updS [Z1m,Z1n,Z1o,Ss ka,(km,.map [] 58),(ku,.map [(.str 6 52970673484405,.ptr k2a 0,5),(.str 6 52970707038581,.ptr k1x 0,11),(.str 5 435744240755,.ptr k1i 0,13)] 14),Z1p,Z1q,Z1f,Z1r,S5 k1n,Sy k1r k1u k1u,Sc k1x kr k1z (.int .i64 2) (.int .i64 21) (.str 6 52970707038581) (.int .i64 0) (.int .i64 0) (.int .i64 0) (.int .i64 0),Z1e,S5 k21,S2y k2i k2j,S2z k2j k2k k2h,Sh k2k] s4
def st:RT AObj:=updS [Z1s,Z1t,Z1u,Sw ka,(km,.map [] 67),(ku,.map [(.str 6 52970707038581,.ptr k1x 0,11),(.str 6 52970723816053,.ptr k2f 0,14),(.str 5 435744240755,.ptr k1i 0,16)] 17),Z1v,Z1w,Z1j,Sp k24 k27 k27,Sq k2b k2l (.str 2 13167),S5 k2e,Z1x,Z1k,Sr k2l k2m k27 (.int .i64 1) (.int .i64 0) (.str 0 0) (.str 2 13167),Sh k2m] ss
def su:RT AObj:=updS [Z1y,S12 k1 k7,S13 k6,Z1z,S15 km,Z20,Z1h,Z1i,Z1r,Su k1y k2n,Sc k2a kr k2c (.int .i64 2) (.int .i64 21) (.str 6 52970740593013) (.int .i64 1) (.int .i64 0) (.int .i64 0) (.int .i64 0),Z1g,Sv k2n k2o k1u,S2y k2o k2p,S2z k2p k2q k2n,Sh k2q] st
def sv:RT AObj:=updS [Z1y,S12 k1 k7,S13 k6,Z1z,S15 km,Z20,Z1h,Z1i,Z1r,S18 k1r k1u k1u,Sz k1y k2n k2h,Sc k2a kr k2c (.int .i64 2) (.int .i64 29) (.str 6 52970740593013) (.int .i64 1) (.int .i64 0) (.int .i64 0) (.int .i64 0),Z1g,S10 k2n k2o k1u,Sh k2o] st
def sw:RT AObj:=updS [Z22,S1a k1 k7,S1b k6,Sw ka,S1c km,Z23,Z1v,Z1w,Z1j,Z24,Z35,Z1e,Su k2o k2p,Sv k2p k2q k2n,S2y k2q k2r,S2z k2r k2s k2p,Sh k2s] sv
def sx:RT AObj:=updS [Z25,Z26,Z27,Ss ka,S1g km,(ku,.map [(.str 6 52970757370229,.ptr k1x 0,20),(.str 6 52970774147701,.ptr k2a 0,23),(.str 5 435744240755,.ptr k1i 0,25)] 26),Z1p,Z1f,Z1r,Z28,Z29,Z2a,Z1g,Z2b,Z1l] sw
def sy:RT AObj:=updS [Z22,S1a k1 k7,S1b k6,Sw ka,S1c km,Z23,Z1v,Z1w,Z1j,S1j k1r k1u k1u,Sc k1x kr k1z (.int .i64 2) (.int .i64 39) (.str 6 52970757370229) (.int .i64 0) (.int .i64 0) (.int .i64 0) (.int .i64 0),Z1e,S17 k2o k2p,S10 k2p k2q k2n,Sh k2q] sv
def sz:RT AObj:=updS [Z25,Z26,S1k k6,Z1z,S1g km,Z2c,Z1h,Z1i,Z1r,Z35,S1m k2a kr k2c,Z1g,Su k2q k2r,Sv k2r k2s k2p,S2y k2s k2t,S2z k2t k2u k2r,Sh k2u] sy
def s10:RT AObj:=updS [Z2d,Z2e,S1p k6,Z2f,S1r km,Z2g,Z1p,Z1f,Z1j,Z2h,Z1e,Z28,Z2a,Z2b,Z1l] sz
def s11:RT AObj:=updS [Z25,Z26,S1k k6,Z1z,S1g km,Z2c,Z1h,Z1i,Z1r,S1u k1r k1u k1u,Sc k2a kr k2c (.int .i64 2) (.int .i64 51) (.str 6 52970774147445) (.int .i64 1) (.int .i64 0) (.int .i64 0) (.int .i64 0),Z1g,S17 k2q k2r,S10 k2r k2s k2p,Sh k2s] sy
def s12:RT AObj:=updS [Z2d,Z2e,S1p k6,Z2f,S1r km,Z2g,Z1p,Z1f,Z1j,Z2h,Z1e,Z28,S1h k2b k2l k2t,S1i k2t k2u k27,Sh k2u] s11
def s13:RT AObj:=updS [Z2i,Z2j,S1x k6,Z2k,S1z km,Z2l,Z1v,Z1w,Z1r,Z35,Z2m,Z1k,Su k2s k2v,Sv k2v k2w k2r,S2y k2w k2x,S2z k2x k2y k2v,Sh k2y] s12
def s14:RT AObj:=updS [Z2i,Z2j,S1x k6,Z2k,S1z km,Z2l,Z1v,Z1w,Z1r,S22 k1r k1u k1u,Sc k2f kr k2g (.int .i64 2) (.int .i64 65) (.str 7 13560483888836981) (.int .i64 2) (.int .i64 0) (.int .i64 0) (.int .i64 0),Z1k,S17 k2s k2v,S10 k2v k2w k2r,Sh k2w] s12
def s15:RT AObj:=updS [Z2n,Z2o,S25 k6,Z2f,S26 km,Z2p,Z1p,Z1f,Z1j,Z35,Z2q,Z1g,Su k2w k2x,Sv k2x k2y k2v,S2y k2y k2z,Z36,Sh k30] s14
def s16:RT AObj:=updS [Z2r,Z2s,S2b k6,Z1z,S2c km,Z2t,Z1h,Z1i,Z1r,Z2u,Z2v,S2f k2f kr k2g,Z1k,Z2w,Z1l] s15
def s17:RT AObj:=updS [Z2n,Z2o,S25 k6,Z2f,S26 km,Z2p,Z1p,Z1f,Z1j,S2h k1r k1u k1u,Z2q,Z1g,S17 k2w k2x,S10 k2x k2y k2v,Sh k2y] s14
def s18:RT AObj:=updS [Z2r,Z2s,S2i k6,Z2k,S2c km,Z2x,Z1v,Z1w,Z1r,Z35,S2k k2f kr k2g,Z1k,Su k2y k2z,Sv k2z k30 k2x,Z37,Z38,Sh k32] s17
def s19:RT AObj:=updS [Z2y,Z2z,S2n k6,Sl ka,S2o km,Z30,Z1h,Z1i,Z1j,Z2u,Z31,Z2v,Z1g,Z2w,Z1l] s18
def s1a:RT AObj:=updS [Z2r,Z2s,S2i k6,Z2k,S2c km,Z2x,Z1v,Z1w,Z1r,S2r k1r k1u k1u,Sc k2f kr k2g (.int .i64 2) (.int .i64 99) (.str 7 13560492478771573) (.int .i64 2) (.int .i64 0) (.int .i64 0) (.int .i64 0),Z1k,S17 k2y k2z,S10 k2z k30 k2x,Sh k30] s17
def s1b:RT AObj:=updS [Z2y,Z2z,S2n k6,Sl ka,S2o km,Z30,Z1h,Z1i,Z1j,Z2u,Z31,Z32,Z1g,S2g k31 k32 k27,Sh k32] s1a
def s1c:RT AObj:=updS [Z33,S2t k1 k7,S2u k6,Ss ka,S2v km,Z34,Z1p,Z1f,Z1r,S2x k1x kr k1z,Z35,Z1e,Su k30 k33,Sv k33 k34 k2z,S2y k34 k35,S2z k35 k36 k33,Sh k36] s1b
def s1d:RT AObj:=updS [Z33,S2t k1 k7,S2u k6,Ss ka,S2v km,Z34,Z1p,Z1f,Z1r,Sg k1r k1u k1u (.int .i64 9),Sc k1x kr k1z (.int .i64 2) (.int .i64 119) (.str 7 13560501068706165) (.int .i64 0) (.int .i64 0) (.int .i64 0) (.int .i64 0),Z1e,S17 k30 k33,S10 k33 k34 k2z,Sh k34] s1b
def s1e:RT AObj:=updS [Z1y,S12 k1 k7,S13 k6,Z1z,S15 km,Z20,Z1h,Z1i,Z1r,S18 k1r k1u k1u,Sc k2a kr k2c (.int .i64 2) (.int .i64 33) (.str 6 52970740593013) (.int .i64 1) (.int .i64 0) (.int .i64 0) (.int .i64 0),Z1g,S2y k2k k2n,S2z k2n k2o k2j,Sh k2o] st
def s1f:RT AObj:=updS [Z22,S1a k1 k7,S1b k6,Sw ka,S1c km,Z23,Z1v,Z1w,Z1j,Z24,Su k1y k2p,Z1e,Sv k2p k2q k1u,S2y k2q k2r,S2z k2r k2s k2p,S2y k2s k2t,S2z k2t k2u k2r,Sh k2u] s1e
def s1g:RT AObj:=updS [Z25,Z26,Z27,Ss ka,S1g km,(ku,.map [(.str 6 52970757370229,.ptr k1x 0,20),(.str 6 52970774147701,.ptr k2a 0,23),(.str 5 435744240755,.ptr k1i 0,25)] 26),Z1p,Z1f,Z1r,Z28,Z29,Z2a,Z1g,Z2b,Z1l] s1f
def s1h:RT AObj:=updS [Z22,S1a k1 k7,S1b k6,Sw ka,S1c km,Z23,Z1v,Z1w,Z1j,S1j k1r k1u k1u,Sc k1x kr k1z (.int .i64 2) (.int .i64 41) (.str 6 52970757370229) (.int .i64 0) (.int .i64 0) (.int .i64 0) (.int .i64 0),Sz k1y k2p k2h,Z1e,S10 k2p k2q k1u,Sh k2q] s1e
def s1i:RT AObj:=updS [Z25,Z26,S1k k6,Z1z,S1g km,Z2c,Z1h,Z1i,Z1r,S17 k1y k2p,S1m k2a kr k2c,Z1g,Su k2q k2r,Sv k2r k2s k2p,S2y k2s k2t,S2z k2t k2u k2r,S2y k2u k2v,S2z k2v k2w k2t,Sh k2w] s1h
def s1j:RT AObj:=updS [Z2d,Z2e,S1p k6,Z2f,S1r km,Z2g,Z1p,Z1f,Z1j,Z2h,Z1e,Z28,Z2a,Z2b,Z1l] s1i
def s1k:RT AObj:=updS [Z25,Z26,S1k k6,Z1z,S1g km,Z2c,Z1h,Z1i,Z1r,S1u k1r k1u k1u,Sc k2a kr k2c (.int .i64 2) (.int .i64 51) (.str 6 52970774147445) (.int .i64 1) (.int .i64 0) (.int .i64 0) (.int .i64 0),Z1g,S17 k2q k2r,S10 k2r k2s k2p,Sh k2s] s1h
def s1l:RT AObj:=updS [Z2d,Z2e,S1p k6,Z2f,S1r km,Z2g,Z1p,Z1f,Z1j,Z2h,Z1e,Z28,S1h k2b k2l k2t,S1i k2t k2u k27,Sh k2u] s1k
def s1m:RT AObj:=updS [Z2i,Z2j,S1x k6,Z2k,S1z km,Z2l,Z1v,Z1w,Z1r,S17 k1y k2p,Z2m,Z1k,Su k2s k2v,Sv k2v k2w k2r,S2y k2w k2x,S2z k2x k2y k2v,S2y k2y k2z,Z36,Sh k30] s1l
def s1n:RT AObj:=updS [Z2i,Z2j,S1x k6,Z2k,S1z km,Z2l,Z1v,Z1w,Z1r,S22 k1r k1u k1u,Z2m,Z1k,S17 k2s k2v,S10 k2v k2w k2r,Sh k2w] s1l
def s1o:RT AObj:=updS [Z2n,Z2o,S25 k6,Z2f,S26 km,Z2p,Z1p,Z1f,Z1j,S17 k1y k2p,Z2q,Z1g,Su k2w k2x,Sv k2x k2y k2v,S2y k2y k2z,Z36,Z37,Z38,Sh k32] s1n
def s1p:RT AObj:=updS [Z2r,Z2s,S2b k6,Z1z,S2c km,Z2t,Z1h,Z1i,Z1r,Z2u,Z2v,S2f k2f kr k2g,Z1k,Z2w,Z1l] s1o
def s1q:RT AObj:=updS [Z2n,Z2o,S25 k6,Z2f,S26 km,Z2p,Z1p,Z1f,Z1j,S2h k1r k1u k1u,Sc k2a kr k2c (.int .i64 2) (.int .i64 77) (.str 7 13560488183804277) (.int .i64 1) (.int .i64 0) (.int .i64 0) (.int .i64 0),Z1g,S17 k2w k2x,S10 k2x k2y k2v,Sh k2y] s1n
def s1r:RT AObj:=updS [Z2r,Z2s,S2i k6,Z2k,S2c km,Z2x,Z1v,Z1w,Z1r,S17 k1y k2p,S2k k2f kr k2g,Z1k,Su k2y k2z,Sv k2z k30 k2x,Z37,Z38,S2y k32 k33,S2z k33 k34 k31,Sh k34] s1q
def s1s:RT AObj:=updS [Z2y,Z2z,S2n k6,Sl ka,S2o km,Z30,Z1h,Z1i,Z1j,Z2u,Z31,Z2v,Z1g,Z2w,Z1l] s1r
def s1t:RT AObj:=updS [Z2r,Z2s,S2i k6,Z2k,S2c km,Z2x,Z1v,Z1w,Z1r,S2r k1r k1u k1u,Sc k2f kr k2g (.int .i64 2) (.int .i64 93) (.str 7 13560492478771573) (.int .i64 2) (.int .i64 0) (.int .i64 0) (.int .i64 0),Z1k,S17 k2y k2z,S10 k2z k30 k2x,Sh k30] s1q
def s1u:RT AObj:=updS [Z2y,Z2z,S2n k6,Sl ka,S2o km,Z30,Z1h,Z1i,Z1j,Z2u,Z31,Z32,Z1g,S2g k31 k32 k27,Sh k32] s1t
def s1v:RT AObj:=updS [Z33,S2t k1 k7,S2u k6,Ss ka,S2v km,Z34,Z1p,Z1f,Z1r,S2x k1x kr k1z,S17 k1y k2p,Z1e,Su k30 k33,Sv k33 k34 k2z,S2y k34 k35,S2z k35 k36 k33,S2y k36 k37,S2z k37 k38 k35,Sh k38] s1u
def s1w:RT AObj:=updS [Z33,S2t k1 k7,S2u k6,Ss ka,S2v km,Z34,Z1p,Z1f,Z1r,Sg k1r k1u k1u (.int .i64 9),Sc k1x kr k1z (.int .i64 2) (.int .i64 111) (.str 7 13560501068706165) (.int .i64 0) (.int .i64 0) (.int .i64 0) (.int .i64 0),Z1e,S17 k30 k33,S10 k33 k34 k2z,Sh k34] s1u
def s1x:RT AObj:=updS [S6 k0 k1 k2 k3 k4 k5 k6 kv (.int .i64 15),S0 k1 k7 (.int .i64 (-522)) (.int .i64 522),Sj k6 (.int .i64 1) (.str 12 14909942882012283808127726898) (.int .i64 15) (.int .i64 2) (.str 12 14909942882012283808127726898) (.int .i64 13),Sl ka,(km,.map [] 157),(ku,.map [(.str 7 13560496773739125,.ptr k2a 0,38),(.str 7 13560505363673461,.ptr k2f 0,44),(.str 5 435744240755,.ptr k1i 0,46)] 47),Z1h,Z1i,Z1j,Sg k1r k1u k1u (.int .i64 10),Sc k2f kr k2g (.int .i64 2) (.int .i64 131) (.str 7 13560505363673461) (.int .i64 2) (.int .i64 0) (.int .i64 0) (.int .i64 0),Z1k,S17 k34 k35,S10 k35 k36 k33,Sh k36] s1w
def s1y:RT AObj:=updS [Z39,Z3a,Sj k6 (.int .i64 1) (.str 12 14909942882012283808127726898) (.int .i64 15) (.int .i64 2) (.str 12 14909942882012283808127726898) (.int .i64 16),Z2k,(km,.map [] 166),(ku,.map [(.str 7 13560505363673461,.ptr k2f 0,44),(.str 7 13560509658641013,.ptr k1x 0,47),(.str 5 435744240755,.ptr k1i 0,49)] 50),Z1v,Z1w,Z1r,Sc k1x kr k1z (.int .i64 2) (.int .i64 40) (.str 7 13560509658641013) (.int .i64 0) (.int .i64 0) (.int .i64 0) (.int .i64 0),Z1e,S1j k24 k27 k27,(k2b,.lmap [(.str 2 13167,.ptr k2l 0),(.str 2 13935,.ptr k2t 0),(.str 2 14703,.ptr k31 0),(.str 3 3289455,.ptr k37 0)]),Sr k37 k38 k27 (.int .i64 1) (.int .i64 0) (.str 0 0) (.str 3 3289455),Sh k38] s1x
def s1z:RT AObj:=updS [Z22,S1a k1 k7,S1b k6,Sw ka,S1c km,Z23,Z1v,Z1w,Z1j,S1j k1r k1u k1u,Sc k1x kr k1z (.int .i64 2) (.int .i64 47) (.str 6 52970757370229) (.int .i64 0) (.int .i64 0) (.int .i64 0) (.int .i64 0),Z1e,S2y k2o k2p,S2z k2p k2q k2n,Sh k2q] s1e
def s20:RT AObj:=updS [Z25,Z26,S1k k6,Z1z,S1g km,Z2c,Z1h,Z1i,Z1r,Su k1y k2r,S1m k2a kr k2c,Z1g,Sv k2r k2s k1u,S2y k2s k2t,S2z k2t k2u k2r,S2y k2u k2v,S2z k2v k2w k2t,S2y k2w k2x,S2z k2x k2y k2v,Sh k2y] s1z
def s21:RT AObj:=updS [Z2d,Z2e,S1p k6,Z2f,S1r km,Z2g,Z1p,Z1f,Z1j,Z2h,Z1e,Z28,Z2a,Z2b,Z1l] s20
def s22:RT AObj:=updS [Z25,Z26,S1k k6,Z1z,S1g km,Z2c,Z1h,Z1i,Z1r,S1u k1r k1u k1u,Sz k1y k2r k2h,Sc k2a kr k2c (.int .i64 2) (.int .i64 55) (.str 6 52970774147445) (.int .i64 1) (.int .i64 0) (.int .i64 0) (.int .i64 0),Z1g,S10 k2r k2s k1u,Sh k2s] s1z
def s23:RT AObj:=updS [Z2d,Z2e,S1p k6,Z2f,S1r km,Z2g,Z1p,Z1f,Z1j,Z2h,Z1e,Z28,S1h k2b k2l k2t,S1i k2t k2u k27,Sh k2u] s22
def s24:RT AObj:=updS [Z2i,Z2j,S1x k6,Z2k,S1z km,Z2l,Z1v,Z1w,Z1r,S17 k1y k2r,Z2m,Z1k,Su k2s k2v,Sv k2v k2w k2r,S2y k2w k2x,S2z k2x k2y k2v,S2y k2y k2z,Z36,Z37,Z38,Sh k32] s23
def s25:RT AObj:=updS [Z2i,Z2j,S1x k6,Z2k,S1z km,Z2l,Z1v,Z1w,Z1r,S22 k1r k1u k1u,Sc k2f kr k2g (.int .i64 2) (.int .i64 65) (.str 7 13560483888836981) (.int .i64 2) (.int .i64 0) (.int .i64 0) (.int .i64 0),Z1k,S17 k2s k2v,S10 k2v k2w k2r,Sh k2w] s23
def s26:RT AObj:=updS [Z2n,Z2o,S25 k6,Z2f,S26 km,Z2p,Z1p,Z1f,Z1j,S17 k1y k2r,Z2q,Z1g,Su k2w k2x,Sv k2x k2y k2v,S2y k2y k2z,Z36,Z37,Z38,S2y k32 k33,S2z k33 k34 k31,Sh k34] s25
def s27:RT AObj:=updS [Z2r,Z2s,S2b k6,Z1z,S2c km,Z2t,Z1h,Z1i,Z1r,Z2u,Z2v,S2f k2f kr k2g,Z1k,Z2w,Z1l] s26
def s28:RT AObj:=updS [Z2n,Z2o,S25 k6,Z2f,S26 km,Z2p,Z1p,Z1f,Z1j,S2h k1r k1u k1u,Sc k2a kr k2c (.int .i64 2) (.int .i64 77) (.str 7 13560488183804277) (.int .i64 1) (.int .i64 0) (.int .i64 0) (.int .i64 0),Z1g,S17 k2w k2x,S10 k2x k2y k2v,Sh k2y] s25
def s29:RT AObj:=updS [Z2r,Z2s,S2i k6,Z2k,S2c km,Z2x,Z1v,Z1w,Z1r,S17 k1y k2r,S2k k2f kr k2g,Z1k,Su k2y k2z,Sv k2z k30 k2x,Z37,Z38,S2y k32 k33,S2z k33 k34 k31,S2y k34 k35,S2z k35 k36 k33,Sh k36] s28
def s2a:RT AObj:=updS [Z2y,Z2z,S2n k6,Sl ka,S2o km,Z30,Z1h,Z1i,Z1j,Z2u,Z31,Z2v,Z1g,Z2w,Z1l] s29
def s2b:RT AObj:=updS [Z2r,Z2s,S2i k6,Z2k,S2c km,Z2x,Z1v,Z1w,Z1r,S2r k1r k1u k1u,Sc k2f kr k2g (.int .i64 2) (.int .i64 91) (.str 7 13560492478771573) (.int .i64 2) (.int .i64 0) (.int .i64 0) (.int .i64 0),Z1k,S17 k2y k2z,S10 k2z k30 k2x,Sh k30] s28
def s2c:RT AObj:=updS [Z2y,Z2z,S2n k6,Sl ka,S2o km,Z30,Z1h,Z1i,Z1j,Z2u,Z31,Z32,Z1g,S2g k31 k32 k27,Sh k32] s2b
def s2d:RT AObj:=updS [Z33,S2t k1 k7,S2u k6,Ss ka,S2v km,Z34,Z1p,Z1f,Z1r,S2x k1x kr k1z,S17 k1y k2r,Z1e,Su k30 k33,Sv k33 k34 k2z,S2y k34 k35,S2z k35 k36 k33,S2y k36 k37,S2z k37 k38 k35,S2y k38 k39,S2z k39 k3a k37,Sh k3a] s2c
def s2e:RT AObj:=updS [Z33,S2t k1 k7,S2u k6,Ss ka,S2v km,Z34,Z1p,Z1f,Z1r,Sg k1r k1u k1u (.int .i64 9),Sc k1x kr k1z (.int .i64 2) (.int .i64 107) (.str 7 13560501068706165) (.int .i64 0) (.int .i64 0) (.int .i64 0) (.int .i64 0),Z1e,S17 k30 k33,S10 k33 k34 k2z,Sh k34] s2c
def s2f:RT AObj:=updS [S6 k0 k1 k2 k3 k4 k5 k6 kv (.int .i64 15),S0 k1 k7 (.int .i64 (-522)) (.int .i64 522),Sj k6 (.int .i64 1) (.str 12 14909942882012283808127726898) (.int .i64 15) (.int .i64 2) (.str 12 14909942882012283808127726898) (.int .i64 13),Sl ka,(km,.map [] 157),(ku,.map [(.str 7 13560496773739125,.ptr k2a 0,38),(.str 7 13560505363673461,.ptr k2f 0,44),(.str 5 435744240755,.ptr k1i 0,46)] 47),Z1h,Z1i,Z1j,Sg k1r k1u k1u (.int .i64 10),Sc k2f kr k2g (.int .i64 2) (.int .i64 125) (.str 7 13560505363673461) (.int .i64 2) (.int .i64 0) (.int .i64 0) (.int .i64 0),Z1k,S17 k34 k35,S10 k35 k36 k33,Sh k36] s2e
def s2g:RT AObj:=updS [Z39,Z3a,Sj k6 (.int .i64 1) (.str 12 14909942882012283808127726898) (.int .i64 15) (.int .i64 2) (.str 12 14909942882012283808127726898) (.int .i64 16),Z2k,(km,.map [] 166),(ku,.map [(.str 7 13560505363673461,.ptr k2f 0,44),(.str 7 13560509658641013,.ptr k1x 0,47),(.str 5 435744240755,.ptr k1i 0,49)] 50),Z1v,Z1w,Z1r,Sc k1x kr k1z (.int .i64 2) (.int .i64 40) (.str 7 13560509658641013) (.int .i64 0) (.int .i64 0) (.int .i64 0) (.int .i64 0),Z1e,S1j k24 k27 k27,(k2b,.lmap [(.str 2 13167,.ptr k2l 0),(.str 2 13935,.ptr k2t 0),(.str 2 14703,.ptr k31 0),(.str 3 3289455,.ptr k37 0)]),Sr k37 k38 k27 (.int .i64 1) (.int .i64 0) (.str 0 0) (.str 3 3289455),Sh k38] s2f
def s2h:RT AObj:=updS [Z39,Z3a,Sj k6 (.int .i64 1) (.str 12 14909942882012283808127726898) (.int .i64 16) (.int .i64 2) (.str 12 14909942882012283808127726898) (.int .i64 13),Ss ka,(km,.map [] 166),(ku,.map [(.str 7 13560496773739125,.ptr k2a 0,38),(.str 7 13560509658640757,.ptr k1x 0,47),(.str 5 435744240755,.ptr k1i 0,49)] 50),Z1p,Z1f,Z1r,Sg k1r k1u k1u (.int .i64 11),Sc k1x kr k1z (.int .i64 2) (.int .i64 145) (.str 7 13560509658640757) (.int .i64 0) (.int .i64 0) (.int .i64 0) (.int .i64 0),Z1e,S17 k36 k37,S10 k37 k38 k35,Sh k38] s2f
def s2i:RT AObj:=updS [S6 k0 k1 k2 k3 k4 k5 k6 kv (.int .i64 17),S0 k1 k7 (.int .i64 (-582)) (.int .i64 582),Sj k6 (.int .i64 1) (.str 12 14909942882012283808127726898) (.int .i64 16) (.int .i64 2) (.str 12 14909942882012283808127726898) (.int .i64 17),Sw ka,(km,.map [] 175),(ku,.map [(.str 7 13560509658640757,.ptr k1x 0,47),(.str 7 13560513953608309,.ptr k2f 0,50),(.str 5 435744240755,.ptr k1i 0,52)] 53),Z1v,Z1w,Z1j,S1j k24 k27 k27,(k2b,.lmap [(.str 2 13167,.ptr k2l 0),(.str 2 13935,.ptr k2t 0),(.str 2 14703,.ptr k31 0),(.str 3 3289455,.ptr k39 0)]),Sc k2f kr k2g (.int .i64 2) (.int .i64 40) (.str 7 13560513953608309) (.int .i64 2) (.int .i64 0) (.int .i64 0) (.int .i64 0),Z1k,Sr k39 k3a k27 (.int .i64 1) (.int .i64 0) (.str 0 0) (.str 3 3289455),Sh k3a] s2h
def s2j:RT AObj:=updS [S6 k0 k1 k2 k3 k4 k5 k6 kv (.int .i64 0),S0 k1 k7 (.int .i64 (-52)) (.int .i64 52),S1 k2 k1 k8 k9 ka (.int .i64 5) (.int .i64 16334),(k5,.map [(.str 1 116,.str 12 14909952252669478796797554994,0)] 1),(k8,.cells 271 [.ptr kf 0,.int .i64 512,.map kg,.slice kh 0 6 (.more 1)] false 0),(ka,.bits 4 16384 1125899906842623),(kc,.map [(.str 12 14909952252669478796797554994,.ptr ky 0,0)] 1),(kd,.map [(.str 1 116,.agg [.slice kz 0 1 (.more 1)],0)] 1),(kg,.map [(.int .i64 0,.ptr kn 0,0),(.int .i64 45,.ptr ko 0,1),(.int .i64 46,.ptr k11 0,2),(.int .i64 47,.ptr k12 0,3),(.int .i64 48,.ptr k13 0,4),(.int .i64 49,.ptr k14 0,5)] 6),(kh,.cells 3 [.int .i64 0,.int .i64 45,.int .i64 46,.int .i64 47,.int .i64 48,.int .i64 49] true 0),(km,.map [] 16),(kq,.cells 276 [.int .i64 1,.int .i64 0,.str 6 126935165919596,.ptr k9 0,.int .i64 1,.map kt,.slice k17 0 1 (.more 1),.slice k18 0 1 (.more 1),.nilSlice,.int .i64 0,.int .i64 0,.int .i64 0] false 0),(kr,.cells 276 [.int .i64 1,.int .i64 0,.str 5 491328597876,.ptr k9 0,.int .i64 2,.map ku,.slice k19 0 1 (.more 1),.slice k1a 0 1 (.more 1),.nilSlice,.int .i64 0,.int .i64 0,.int .i64 0] false 0),(kt,.map [(.str 12 14909952252669478796797554994,.ptr k1b 0,1)] 2),(ku,.map [(.str 5 435744240755,.ptr k1c 0,1)] 2),(kv,.cells 203 [.str 19 1318739858033904608473444756492996921336492646,.nilSlice,.int .i64 20000,.map kw,.slice kx 0 1 (.more 1)] true 0),S2 kw,(kx,.cells 145 [.slice k10 0 1 (.more 4)] true 0),S8 ky k15 (.str 0 0) (.int .i64 1) (.int .i64 0),(kz,.cells 145 [.slice k16 0 1 (.more 4)] true 0),S9 k10,S5 k11,Sb k12,S5 k13,Sb k14,S9 k15,S9 k16,(k17,.cells 173 [.ptr k1b 0] true 0),S4 k18 (.int .i64 46),(k19,.cells 173 [.ptr k1c 0] true 0),S4 k1a (.int .i64 48),Sc k1b kq k1d (.int .i64 2) (.int .i64 12) (.str 12 14909952252669478796797554994) (.int .i64 0) (.int .i64 0) (.int .i64 0) (.int .i64 0),Sc k1c kr k1e (.int .i64 2) (.int .i64 19) (.str 5 435744240755) (.int .i64 0) (.int .i64 0) (.int .i64 0) (.int .i64 0),Sd k1d (.int .i64 47),Sd k1e (.int .i64 49)] s0
def s2k:RT AObj:=updS [S6 k0 k1 k2 k3 k4 k5 k6 kv (.int .i64 1),S0 k1 k7 (.int .i64 (-82)) (.int .i64 82),S1 k2 k1 k8 k9 ka (.int .i64 6) (.int .i64 16333),(k6,.map [(.int .i64 1,.agg [.str 12 14909952252669478796797554994,.int .i64 1],0)] 1),(k8,.cells 271 [.ptr kf 0,.int .i64 512,.map kg,.slice kh 0 8 (.more 1)] false 0),(ka,.bits 4 16384 3940649673949183),(ke,.map [(.int .i64 1,.ptr k1f 0,0)] 1),(kg,.map [(.int .i64 0,.ptr kn 0,0),(.int .i64 45,.ptr ko 0,1),(.int .i64 46,.ptr k11 0,2),(.int .i64 47,.ptr k12 0,3),(.int .i64 48,.ptr k13 0,4),(.int .i64 49,.ptr k14 0,5),(.int .i64 50,.ptr k1g 0,6),(.int .i64 51,.ptr k1h 0,7)] 8),(kh,.cells 3 [.int .i64 0,.int .i64 45,.int .i64 46,.int .i64 47,.int .i64 48,.int .i64 49,.int .i64 50,.int .i64 51] true 0),(km,.map [] 25),(kr,.cells 276 [.int .i64 1,.int .i64 0,.str 5 491328597876,.ptr k9 0,.int .i64 2,.map ku,.slice k19 0 2 (.more 1),.slice k1a 0 1 (.more 1),.nilSlice,.int .i64 0,.int .i64 0,.int .i64 0] false 0),(ku,.map [(.str 6 52970656706933,.ptr k1q 0,2),(.str 5 435744240755,.ptr k1c 0,4)] 5),S8 ky k15 (.str 0 0) (.int .i64 2) (.int .i64 0),S5 k12,(k19,.cells 173 [.ptr k1q 0,.ptr k1c 0,.ptr k1c 0] true 0),Sc k1c kr k1e (.int .i64 2) (.int .i64 41) (.str 5 435744240755) (.int .i64 1) (.int .i64 0) (.int .i64 0) (.int .i64 0),Si k1e,(k1f,.cells 215 [.ptr k1i 0,.ptr k1j 0,.ptr k1k 0,.slice k1l 0 1 (.more 1),.slice k1m 0 1 (.more 4)] false 0),Sb k1g,Sb k1h,(k1i,.cells 323 [.slice k1n 0 5 (.more 4),.int .i64 0,.int .i64 20000,.int .i64 0,.nilSlice,.bool false,.str 0 0,.float .f64 0,.bool false,.str 0 0,.float .f64 0,.bool false,.str 0 0,.float .f64 0,.bool false,.str 0 0,.float .f64 0,.bool false,.str 0 0,.float .f64 0,.bool false,.str 0 0,.float .f64 0,.bool false,.str 0 0,.float .f64 0,.bool false,.str 0 0,.float .f64 0,.bool false,.str 0 0,.float .f64 0,.bool false,.str 0 0,.float .f64 0,.bool false,.str 0 0,.float .f64 0,.bool false,.str 0 0,.float .f64 0,.bool false,.str 0 0,.float .f64 0,.bool false,.str 0 0,.float .f64 0,.bool false,.str 0 0,.float .f64 0,.bool false,.str 0 0,.float .f64 0,.bool false,.str 0 0,.float .f64 0,.bool false,.str 0 0,.float .f64 0,.bool false,.str 0 0,.float .f64 0,.bool false,.str 0 0,.float .f64 0,.bool false,.str 0 0,.float .f64 0,.bool false,.str 0 0,.float .f64 0,.bool false,.str 0 0,.float .f64 0,.bool false,.str 0 0,.float .f64 0,.bool false,.str 0 0,.float .f64 0,.bool false,.str 0 0,.float .f64 0,.bool false,.str 0 0,.float .f64 0,.bool false,.str 0 0,.float .f64 0,.bool false,.str 0 0,.float .f64 0,.bool false,.str 0 0,.float .f64 0,.bool false,.str 0 0,.float .f64 0,.bool false,.str 0 0,.float .f64 0,.bool false,.str 0 0,.float .f64 0,.bool false,.str 0 0,.float .f64 0,.bool false,.str 0 0,.float .f64 0,.bool false,.str 0 0,.float .f64 0,.bool false,.str 0 0,.float .f64 0,.bool false,.str 0 0,.float .f64 0,.bool false,.str 0 0,.float .f64 0,.bool false,.str 0 0,.float .f64 0,.bool false,.str 0 0,.float .f64 0,.bool false,.str 0 0,.float .f64 0,.bool false,.str 0 0,.float .f64 0,.bool false,.str 0 0,.float .f64 0,.bool false,.str 0 0,.float .f64 0,.bool false,.str 0 0,.float .f64 0,.bool false,.str 0 0,.float .f64 0,.bool false,.str 0 0,.float .f64 0,.bool false,.str 0 0,.float .f64 0,.bool false,.str 0 0,.float .f64 0,.bool false,.str 0 0,.float .f64 0,.bool false,.str 0 0,.float .f64 0,.bool false,.str 0 0,.float .f64 0,.bool false,.str 0 0,.float .f64 0,.bool false,.str 0 0,.float .f64 0,.bool false,.str 0 0,.float .f64 0,.bool false,.str 0 0,.float .f64 0,.bool false,.str 0 0,.float .f64 0,.bool false,.str 0 0,.float .f64 0,.bool false,.str 0 0,.float .f64 0,.bool false,.str 0 0,.float .f64 0,.bool false,.str 0 0,.float .f64 0,.bool false,.str 0 0,.float .f64 0,.bool false,.str 0 0,.float .f64 0,.int .i64 0,.int .i64 0,.str 0 0,.str 0 0,.int .i64 0,.int .i64 0,.int .i64 0,.int .i64 0,.str 0 0,.str 0 0,.int .i64 0,.str 0 0] false 0),(k1j,.cells 313 [.nilSlice] false 0),Sp k1k k1o k1o,(k1l,.cells 145 [.slice k1p 0 1 (.more 4)] true 0),S9 k1m,(k1n,.cells 356 [.int .i64 2,.int .i64 0,.float .f64 0,.str 1 101,.int .i64 1,.int .i64 0,.float .f64 4607182418800017408,.str 0 0,.int .i64 17,.int .i64 2,.float .f64 0,.str 5 491394460525,.int .i64 18,.int .i64 0,.float .f64 0,.str 0 0,.int .i64 0,.int .i64 0,.float .f64 0,.str 0 0] true 0),(k1o,.cells 391 [.int .i64 1,.int .i64 493,.str 0 0,.map k1r,.nilPtr,.str 0 0] false 0),S9 k1p,Sc k1q kr k1s (.int .i64 2) (.int .i64 3) (.str 6 52970656706933) (.int .i64 0) (.int .i64 0) (.int .i64 0) (.int .i64 0),Sq k1r k1t (.str 1 100),Se k1s,Sr k1t k1u k1o (.int .i64 1) (.int .i64 493) (.str 0 0) (.str 1 100),Sh k1u] s2j
def s2l:RT AObj:=updS [S6 k0 k1 k2 k3 k4 k5 k6 kv (.int .i64 2),S0 k1 k7 (.int .i64 (-110)) (.int .i64 110),(k6,.map [(.int .i64 1,.agg [.str 12 14909952252669478796797554994,.int .i64 2],0)] 1),(k8,.cells 271 [.ptr kf 0,.int .i64 512,.map kg,.slice kh 0 9 (.more 1)] false 0),(ka,.bits 4 16384 5629499534213119),(kg,.map [(.int .i64 0,.ptr kn 0,0),(.int .i64 45,.ptr ko 0,1),(.int .i64 46,.ptr k11 0,2),(.int .i64 47,.ptr k12 0,3),(.int .i64 48,.ptr k13 0,4),(.int .i64 49,.ptr k14 0,5),(.int .i64 50,.ptr k1g 0,6),(.int .i64 51,.ptr k1h 0,7),(.int .i64 52,.ptr k1v 0,8)] 9),(kh,.cells 3 [.int .i64 0,.int .i64 45,.int .i64 46,.int .i64 47,.int .i64 48,.int .i64 49,.int .i64 50,.int .i64 51,.int .i64 52] true 0),(km,.map [] 33),(ku,.map [(.str 6 52970673484149,.ptr k1x 0,5),(.str 5 435744240755,.ptr k1c 0,7)] 8),S5 k14,(k19,.cells 173 [.ptr k1c 0,.ptr k1x 0,.ptr k1c 0,.ptr k1c 0] true 0),Sc k1c kr k1e (.int .i64 2) (.int .i64 41) (.str 5 435744240755) (.int .i64 0) (.int .i64 0) (.int .i64 0) (.int .i64 0),Sf k1e,(k1i,.cells 323 [.slice k1n 0 5 (.more 4),.int .i64 3,.int .i64 19997,.int .i64 3,.slice k1w 0 1 (.more 3),.bool false,.str 0 0,.float .f64 0,.bool false,.str 0 0,.float .f64 0,.bool false,.str 0 0,.float .f64 0,.bool false,.str 0 0,.float .f64 0,.bool false,.str 0 0,.float .f64 0,.bool false,.str 0 0,.float .f64 0,.bool false,.str 0 0,.float .f64 0,.bool false,.str 0 0,.float .f64 0,.bool false,.str 0 0,.float .f64 0,.bool false,.str 0 0,.float .f64 0,.bool false,.str 0 0,.float .f64 0,.bool false,.str 0 0,.float .f64 0,.bool false,.str 0 0,.float .f64 0,.bool false,.str 0 0,.float .f64 0,.bool false,.str 0 0,.float .f64 0,.bool false,.str 0 0,.float .f64 0,.bool false,.str 0 0,.float .f64 0,.bool false,.str 0 0,.float .f64 0,.bool false,.str 0 0,.float .f64 0,.bool false,.str 0 0,.float .f64 0,.bool false,.str 0 0,.float .f64 0,.bool false,.str 0 0,.float .f64 0,.bool false,.str 0 0,.float .f64 0,.bool false,.str 0 0,.float .f64 0,.bool false,.str 0 0,.float .f64 0,.bool false,.str 0 0,.float .f64 0,.bool false,.str 0 0,.float .f64 0,.bool false,.str 0 0,.float .f64 0,.bool false,.str 0 0,.float .f64 0,.bool false,.str 0 0,.float .f64 0,.bool false,.str 0 0,.float .f64 0,.bool false,.str 0 0,.float .f64 0,.bool false,.str 0 0,.float .f64 0,.bool false,.str 0 0,.float .f64 0,.bool false,.str 0 0,.float .f64 0,.bool false,.str 0 0,.float .f64 0,.bool false,.str 0 0,.float .f64 0,.bool false,.str 0 0,.float .f64 0,.bool false,.str 0 0,.float .f64 0,.bool false,.str 0 0,.float .f64 0,.bool false,.str 0 0,.float .f64 0,.bool false,.str 0 0,.float .f64 0,.bool false,.str 0 0,.float .f64 0,.bool false,.str 0 0,.float .f64 0,.bool false,.str 0 0,.float .f64 0,.bool false,.str 0 0,.float .f64 0,.bool false,.str 0 0,.float .f64 0,.bool false,.str 0 0,.float .f64 0,.bool false,.str 0 0,.float .f64 0,.bool false,.str 0 0,.float .f64 0,.bool false,.str 0 0,.float .f64 0,.bool false,.str 0 0,.float .f64 0,.bool false,.str 0 0,.float .f64 0,.bool false,.str 0 0,.float .f64 0,.bool false,.str 0 0,.float .f64 0,.bool false,.str 0 0,.float .f64 0,.bool false,.str 0 0,.float .f64 0,.bool false,.str 0 0,.float .f64 0,.bool false,.str 0 0,.float .f64 0,.bool false,.str 0 0,.float .f64 0,.bool false,.str 0 0,.float .f64 0,.bool false,.str 0 0,.float .f64 0,.bool false,.str 0 0,.float .f64 0,.bool false,.str 0 0,.float .f64 0,.int .i64 0,.int .i64 0,.str 0 0,.str 0 0,.int .i64 0,.int .i64 0,.int .i64 0,.int .i64 0,.str 0 0,.str 5 491394460525,.int .i64 0,.str 0 0] false 0),Sy k1k k1o k1o,(k1r,.lmap [(.str 1 100,.ptr k1t 0),(.str 1 101,.ptr k1z 0)]),Sb k1v,(k1w,.cells 320 [.bool false,.str 0 0,.float .f64 0,.bool false,.str 0 0,.float .f64 4607182418800017408] true 0),Sc k1x kr k1y (.int .i64 2) (.int .i64 11) (.str 6 52970673484149) (.int .i64 1) (.int .i64 0) (.int .i64 0) (.int .i64 0),Sd k1y (.int .i64 49),Sr k1z k20 k1o (.int .i64 1) (.int .i64 1) (.str 0 0) (.str 1 101),Sh k20] s2k
def tw0:List MRow:=[tR s2 k1r,
 tR s4 k1r,
 tR s5 k1r,
 tR s6 k24,
 tR s7 k1r,
 tR s9 k1r,
 tR sa k1r,
 tR sb k1r]
def tw1:List MRow:=[tR sc k24,
 tR sd k1r,
 tR se k1r,
 tR sg k1r,
 tR si k1r,
 tR sj k1r,
 tR sk k1r,
 tR sl k24]
def tw2:List MRow:=[tR sm k1r,
 tR sn k1r,
 tR sp k1r,
 tR sr k1r,
 tR ss k1r,
 tR su k1r,
 tR sv k1r,
 tR sw k1r]
def tw3:List MRow:=[tR sy k1r,
 tR sz k1r,
 tR s11 k1r,
 tR s13 k1r,
 tR s14 k1r,
 tR s15 k1r,
 tR s17 k1r,
 tR s18 k1r]
def tw4:List MRow:=[tR s1a k1r,
 tR s1c k1r,
 tR s1d k1r,
 tR s1e k1r,
 tR s1f k1r,
 tR s1h k1r,
 tR s1i k1r,
 tR s1k k1r]
def tw5:List MRow:=[tR s1m k1r,
 tR s1n k1r,
 tR s1o k1r,
 tR s1q k1r,
 tR s1r k1r,
 tR s1t k1r,
 tR s1v k1r,
 tR s1w k1r]
def tw6:List MRow:=[tR s1x k1r,
 tR s1y k24,
 tR s1z k1r,
 tR s20 k1r,
 tR s22 k1r,
 tR s24 k1r,
 tR s25 k1r,
 tR s26 k1r]
def tw7:List MRow:=[tR s28 k1r,
 tR s29 k1r,
 tR s2b k1r,
 tR s2d k1r,
 tR s2e k1r,
 tR s2f k1r,
 tR s2h k1r,
 tR s2k k1k]
def trows:List MRow:=tw0 ++ (tw1 ++ (tw2 ++ (tw3 ++ (tw4 ++ (tw5 ++ (tw6 ++ (tw7)))))))
def cr0:MRow:=cR tys k0 s0 k4
def cr1:MRow:=cR tys k0 s1 k4
def cr2:MRow:=cR tys k0 s2 k4
def cr3:MRow:=cR tys k0 s3 k4
def cr4:MRow:=cR tys k0 s4 k4
def cr5:MRow:=cR tys k0 s5 k4
def cr6:MRow:=cR tys k0 s6 k4
def cr7:MRow:=cR tys k0 s7 k4
def cr8:MRow:=cR tys k0 s8 k4
def cr9:MRow:=cR tys k0 s9 k4
def cr10:MRow:=cR tys k0 sa k4
def cr11:MRow:=cR tys k0 sb k4
def cr12:MRow:=cR tys k0 sc k4
def cr13:MRow:=cR tys k0 sd k4
def cr14:MRow:=cR tys k0 se k4
def cr15:MRow:=cR tys k0 sf k4
def cr16:MRow:=cR tys k0 sg k4
def cr17:MRow:=cR tys k0 sh k4
def cr18:MRow:=cR tys k0 si k4
def cr19:MRow:=cR tys k0 sj k4
def cr20:MRow:=cR tys k0 sk k4
def cr21:MRow:=cR tys k0 sl k4
def cr22:MRow:=cR tys k0 sm k4
def cr23:MRow:=cR tys k0 sn k4
def cr24:MRow:=cR tys k0 so k4
def cr25:MRow:=cR tys k0 sp k4
def cr26:MRow:=cR tys k0 sq k4
def cr27:MRow:=cR tys k0 sr k4
def cr28:MRow:=cR tys k0 ss k4
def cr29:MRow:=cR tys k0 st k4
def cr30:MRow:=cR tys k0 su k4
def cr31:MRow:=cR tys k0 sv k4
def cr32:MRow:=cR tys k0 sw k4
def cr33:MRow:=cR tys k0 sx k4
def cr34:MRow:=cR tys k0 sy k4
def cr35:MRow:=cR tys k0 sz k4
def cr36:MRow:=cR tys k0 s10 k4
def cr37:MRow:=cR tys k0 s11 k4
def cr38:MRow:=cR tys k0 s12 k4
def cr39:MRow:=cR tys k0 s13 k4
def cr40:MRow:=cR tys k0 s14 k4
def cr41:MRow:=cR tys k0 s15 k4
def cr42:MRow:=cR tys k0 s16 k4
def cr43:MRow:=cR tys k0 s17 k4
def cr44:MRow:=cR tys k0 s18 k4
def cr45:MRow:=cR tys k0 s19 k4
def cr46:MRow:=cR tys k0 s1a k4
def cr47:MRow:=cR tys k0 s1b k4
def cr48:MRow:=cR tys k0 s1c k4
def cr49:MRow:=cR tys k0 s1d k4
def cr50:MRow:=cR tys k0 s1e k4
def cr51:MRow:=cR tys k0 s1f k4
def cr52:MRow:=cR tys k0 s1g k4
def cr53:MRow:=cR tys k0 s1h k4
def cr54:MRow:=cR tys k0 s1i k4
def cr55:MRow:=cR tys k0 s1j k4
def cr56:MRow:=cR tys k0 s1k k4
def cr57:MRow:=cR tys k0 s1l k4
def cr58:MRow:=cR tys k0 s1m k4
def cr59:MRow:=cR tys k0 s1n k4
def cr60:MRow:=cR tys k0 s1o k4
def cr61:MRow:=cR tys k0 s1p k4
def cr62:MRow:=cR tys k0 s1q k4
def cr63:MRow:=cR tys k0 s1r k4
def cr64:MRow:=cR tys k0 s1s k4
def cr65:MRow:=cR tys k0 s1t k4
def cr66:MRow:=cR tys k0 s1u k4
def cr67:MRow:=cR tys k0 s1v k4
def cr68:MRow:=cR tys k0 s1w k4
def cr69:MRow:=cR tys k0 s1x k4
def cr70:MRow:=cR tys k0 s1y k4
def cr71:MRow:=cR tys k0 s1z k4
def cr72:MRow:=cR tys k0 s20 k4
def cr73:MRow:=cR tys k0 s21 k4
def cr74:MRow:=cR tys k0 s22 k4
def cr75:MRow:=cR tys k0 s23 k4
def cr76:MRow:=cR tys k0 s24 k4
def cr77:MRow:=cR tys k0 s25 k4
def cr78:MRow:=cR tys k0 s26 k4
def cr79:MRow:=cR tys k0 s27 k4
def cr80:MRow:=cR tys k0 s28 k4
def cr81:MRow:=cR tys k0 s29 k4
def cr82:MRow:=cR tys k0 s2a k4
def cr83:MRow:=cR tys k0 s2b k4
def cr84:MRow:=cR tys k0 s2c k4
def cr85:MRow:=cR tys k0 s2d k4
def cr86:MRow:=cR tys k0 s2e k4
def cr87:MRow:=cR tys k0 s2f k4
def cr88:MRow:=cR tys k0 s2g k4
def cr89:MRow:=cR tys k0 s2h k4
def cr90:MRow:=cR tys k0 s2i k4
def cr91:MRow:=cR tys k0 s2j k4
def cr92:MRow:=cR tys k0 s2k k4
def cw0:List MRow:=[cr0,
 cr1,
 cr2,
 cr3]
def cw1:List MRow:=[cr4,
 cr5,
 cr6,
 cr7]
def cw2:List MRow:=[cr8,
 cr9,
 cr10,
 cr11]
def cw3:List MRow:=[cr12,
 cr13,
 cr14,
 cr15]
def cw4:List MRow:=[cr16,
 cr17,
 cr18,
 cr19]
def cw5:List MRow:=[cr20,
 cr21,
 cr22,
 cr23]
def cw6:List MRow:=[cr24,
 cr25,
 cr26,
 cr27]
def cw7:List MRow:=[cr28,
 cr29,
 cr30,
 cr31]
def cw8:List MRow:=[cr32,
 cr33,
 cr34,
 cr35]
def cw9:List MRow:=[cr36,
 cr37,
 cr38,
 cr39]
def cw10:List MRow:=[cr40,
 cr41,
 cr42,
 cr43]
def cw11:List MRow:=[cr44,
 cr45,
 cr46,
 cr47]
def cw12:List MRow:=[cr48,
 cr49,
 cr50,
 cr51]
def cw13:List MRow:=[cr52,
 cr53,
 cr54,
 cr55]
def cw14:List MRow:=[cr56,
 cr57,
 cr58,
 cr59]
def cw15:List MRow:=[cr60,
 cr61,
 cr62,
 cr63]
def cw16:List MRow:=[cr64,
 cr65,
 cr66,
 cr67]
def cw17:List MRow:=[cr68,
 cr69,
 cr70,
 cr71]
def cw18:List MRow:=[cr72,
 cr73,
 cr74,
 cr75]
def cw19:List MRow:=[cr76,
 cr77,
 cr78,
 cr79]
def cw20:List MRow:=[cr80,
 cr81,
 cr82,
 cr83]
def cw21:List MRow:=[cr84,
 cr85,
 cr86,
 cr87]
def cw22:List MRow:=[cr88,
 cr89,
 cr90,
 cr91]
def cw23:List MRow:=[cr92]
def crows:List MRow:=cw0 ++ (cw1 ++ (cw2 ++ (cw3 ++ (cw4 ++ (cw5 ++ (cw6 ++ (cw7 ++ (cw8 ++ (cw9 ++ (cw10 ++ (cw11 ++ (cw12 ++ (cw13 ++ (cw14 ++ (cw15 ++ (cw16 ++ (cw17 ++ (cw18 ++ (cw19 ++ (cw20 ++ (cw21 ++ (cw22 ++ (cw23)))))))))))))))))))))))
def nw0:List MRow:=[nR s0 [.int .i64 16384] (.tup [.ptr k0 0,.int .i64 0]) k0]
def nw1:List MRow:=[⟨[.int .i64 16383],[],.tup [.nilPtr, .int .i64 2600],[]⟩]
def nrows:List MRow:=nw0 ++ (nw1)
def dw0:List MRow:=[dR tys k4 s0 s1 [.ptr k0 0,.agg [.int .i64 3,.str 1 116,.str 0 0,.str 31 104481335786327267040345892488766287127177228565394820989683512661121135206,.nilSlice,.int .i64 0,.int .i64 0,.str 0 0,.str 0 0,.int .i64 0,.int .i64 0,.int .i64 0,.int .i64 0,.str 0 0]] Zr [k5,k6,kh] [kv,kw,kx,ky,kz,k10,k11,k12,k13,k14,k15,k16,k17,k18,k19,k1a,k1b,k1c,k1d,k1e,k1f,k1g,k1h,k1i,k1j,k1k,k1l,k0,k1,k2,k8,ka,kc,kg,km,kq,kr,kt,ku] [(kh,.dead)]]
def dw1:List MRow:=[dR tys k4 s1 s2 [.ptr k0 0,.agg [.int .i64 4,.str 1 116,.str 0 0,.str 0 0,.nilSlice,.int .i64 0,.int .i64 0,.str 0 0,.str 0 0,.int .i64 0,.int .i64 0,.int .i64 0,.int .i64 0,.str 0 0]] (.tup [.agg [.int .i64 0,.int .i64 0,.int .i64 1,.str 0 0,.nilSlice,.nilSlice,.int .i64 0,.int .i64 0,.int .i64 0,.int .i64 0,.str 0 0,.nilSlice,.int .i64 0,.int .i64 0],.int .i64 0]) [k5,k6,kh,k1e,k1i,k1k,k1l] [k1n,k1o,k1s,k1t,k1v,k1w,k1x,k1z,k0,k1,k2,k8,ka,kg,km,kr,ku,kz,k15,k1h] [(kh,.dead),(k1e,.dead),(k1i,.dead)]]
def dw2:List MRow:=[dR tys k4 s2 s3 [.ptr k0 0,.agg [.int .i64 4,.str 1 116,.str 0 0,.str 0 0,.nilSlice,.int .i64 0,.int .i64 0,.str 0 0,.str 0 0,.int .i64 0,.int .i64 0,.int .i64 0,.int .i64 0,.str 0 0]] (.tup [.agg [.int .i64 0,.int .i64 0,.int .i64 2,.str 0 0,.nilSlice,.nilSlice,.int .i64 0,.int .i64 0,.int .i64 0,.int .i64 0,.str 0 0,.nilSlice,.int .i64 0,.int .i64 0],.int .i64 0]) [k5,k6,kh,k1e,k1i,k1k,k1l] [k21,k25,k26,k28,k29,k2a,k2c,k0,k1,k2,k8,ka,kg,km,kr,ku,kz,k17,k1h] [(kh,.dead),(k1e,.dead),(k1i,.dead)]]
def dw3:List MRow:=[dR tys k4 s3 s4 (cl 1 6 (.str 2 30767) (.str 0 0) 0 0 0 420 (.str 6 127978876068212)) Zr [k5,k6,kh,k1e,k1f,k1i,k1l] [k2d,k2e,k2f,k2g,k0,k1,k8,ka,kg,km,kr,ku,k1o] [(ke,.dead),(kh,.dead),(k1e,.dead),(k1f,.dead),(k1x,.dead),(k1i,.dead)]]
def dw4:List MRow:=[dR tys k4 s4 s5 Z0 Zr Z18 Z19 Zv]
def dw5:List MRow:=[dR tys k4 s5 s6 Z1 Zr Z18 Z1a Zw]
def dw6:List MRow:=[dR tys k4 s6 s6 Z2 Zs [] [k0] Zx]
def dw7:List MRow:=[dR tys k4 s6 s6 Z3 Zr [] [k0] Zx]
def dw8:List MRow:=[dR tys k4 s4 s7 Z4 Zr Z18 Z19 Zv]
def dw9:List MRow:=[dR tys k4 s7 s8 Z1 Zr Z18 Z1a Zy]
def dw10:List MRow:=[dR tys k4 s8 s9 Z5 Zr Z18 Z1b Zz]
def dw11:List MRow:=[dR tys k4 s9 s9 Z2 Zs [] [k0] Zx]
def dw12:List MRow:=[dR tys k4 s9 s9 Z6 Zr [] [k0] Zx]
def dw13:List MRow:=[dR tys k4 s8 sa Z7 Zr Z18 Z1b Zz]
def dw14:List MRow:=[dR tys k4 sa sb Z8 Zr Z18 Z1c Zy]
def dw15:List MRow:=[dR tys k4 sb sb Z2 Zs [] [k0] Zx]
def dw16:List MRow:=[dR tys k4 sb sc Z9 Zr Z18 Z1b Zv]
def dw17:List MRow:=[dR tys k4 sc sc Za Zr [] [k0] Z10]
def dw18:List MRow:=[dR tys k4 sa sd Zb Zr Z18 Z1c Zy]
def dw19:List MRow:=[dR tys k4 sd se Zc Zr Z18 Z1b Zz]
def dw20:List MRow:=[dR tys k4 se sf Z9 Zr Z18 Z1c Zv]
def dw21:List MRow:=[dR tys k4 sf sf Z2 Zs [] [k0] Z10]
def dw22:List MRow:=[dR tys k4 sf sf Zd Zr [] [k0] Z10]
def dw23:List MRow:=[dR tys k4 sd sg Ze Zr Z18 Z1b Zz]
def dw24:List MRow:=[dR tys k4 sg sh Z9 Zr Z18 Z1c Z11]
def dw25:List MRow:=[dR tys k4 sh si Zf Zr Z18 Z1d Z12]
def dw26:List MRow:=[dR tys k4 si si Z2 Zs [] [k0] Z10]
def dw27:List MRow:=[dR tys k4 si si Zg Zr [] [k0] Z10]
def dw28:List MRow:=[dR tys k4 sh sj Zh Zr Z18 Z1d Z12]
def dw29:List MRow:=[dR tys k4 sj sk Zi Zr Z18 Z1b Z13]
def dw30:List MRow:=[dR tys k4 sk sk Z2 Zs [] [k0] Z10]
def dw31:List MRow:=[dR tys k4 sk sl Zj Zr Z18 Z1d Z14]
def dw32:List MRow:=[dR tys k4 sl sl Zk Zr [] [k0] Z10]
def dw33:List MRow:=[dR tys k4 sj sm Zl Zr Z18 Z1b Z13]
def dw34:List MRow:=[dR tys k4 sm sn Zm Zr Z18 Z1d Z12]
def dw35:List MRow:=[dR tys k4 sn so Zj Zr Z18 Z1b Z14]
def dw36:List MRow:=[dR tys k4 so so Z2 Zs [] [k0] Z10]
def dw37:List MRow:=[dR tys k4 so so (cl 1 3 (.str 14 2457931243309345224102379917374511) (.str 0 0) 0 0 0 0 (.str 0 0)) Zr [] [k0] Z10]
def dw38:List MRow:=[dR tys k4 sm sp Zn Zr Z18 Z1d Z12]
def dw39:List MRow:=[dR tys k4 sp sq Zj Zr Z18 Z1b Z15]
def dw40:List MRow:=[dR tys k4 sq sr Zo Zr Z18 Z1c Z13]
def dw41:List MRow:=[dR tys k4 sr sr Z2 Zs [] [k0] Z10]
def dw42:List MRow:=[dR tys k4 sr sr (cl 1 3 (.str 16 161082981961521248606773570265055982639) (.str 0 0) 0 0 0 0 (.str 0 0)) Zr [] [k0] Z10]
def dw43:List MRow:=[dR tys k4 s4 ss (cl 1 6 (.str 4 1647278127) (.str 0 0) 0 0 0 420 (.str 6 127978876068212)) Zr Z18 Z19 Zv]
def dw44:List MRow:=[dR tys k4 ss st Z1 Zr Z18 Z1a Zw]
def dw45:List MRow:=[dR tys k4 st su Z0 Zr Z18 Z1b Z16]
def dw46:List MRow:=[dR tys k4 su su Z2 Zs [] [k0] Zx]
def dw47:List MRow:=[dR tys k4 su su Z3 (an 0 0 0 0 (.str 0 0) (.slice k1x 0 1 (.more 1))) [] [k0] [(k1x,.cells 9 [.str 1 98] true 0),(ke,.dead)]]
def dw48:List MRow:=[dR tys k4 st sv Z4 Zr Z18 Z1b Z16]
def dw49:List MRow:=[dR tys k4 sv sw Z5 Zr Z18 Z1c Zy]
def dw50:List MRow:=[dR tys k4 sw sw Z2 Zs [] [k0] Zx]
def dw51:List MRow:=[dR tys k4 sw sx Z9 Zr Z18 Z1b Zv]
def dw52:List MRow:=[dR tys k4 sx sx Z6 (an 0 0 0 0 (.str 0 0) (.slice k2f 0 1 (.more 1))) [] [k0] [(k2f,.cells 9 [.str 1 98] true 0),(ke,.dead),(k2b,.dead)]]
def dw53:List MRow:=[dR tys k4 sv sy Z7 Zr Z18 Z1c Zy]
def dw54:List MRow:=[dR tys k4 sy sz Z8 Zr Z18 Z1b Zz]
def dw55:List MRow:=[dR tys k4 sz s10 Z9 Zr Z18 Z1c Zv]
def dw56:List MRow:=[dR tys k4 s10 s10 Z2 Zs [] [k0] Z10]
def dw57:List MRow:=[dR tys k4 s10 s10 Za (an 0 0 0 0 (.str 0 0) (.slice k2f 0 1 (.more 1))) [] [k0] [(k2f,.cells 9 [.str 1 98] true 0),(ke,.dead),(k2b,.dead)]]
def dw58:List MRow:=[dR tys k4 sy s11 Zb Zr Z18 Z1b Zz]
def dw59:List MRow:=[dR tys k4 s11 s12 Z9 Zr Z18 Z1c Z11]
def dw60:List MRow:=[dR tys k4 s12 s13 Zc Zr Z18 Z1d Z12]
def dw61:List MRow:=[dR tys k4 s13 s13 Z2 Zs [] [k0] Z10]
def dw62:List MRow:=[dR tys k4 s13 s13 Zd (an 0 0 0 0 (.str 0 0) (.slice k2a 0 1 (.more 1))) [] [k0] [(k2a,.cells 9 [.str 1 98] true 0),(ke,.dead),(k2b,.dead)]]
def dw63:List MRow:=[dR tys k4 s12 s14 Ze Zr Z18 Z1d Z12]
def dw64:List MRow:=[dR tys k4 s14 s15 Zf Zr Z18 Z1b Z13]
def dw65:List MRow:=[dR tys k4 s15 s15 Z2 Zs [] [k0] Z10]
def dw66:List MRow:=[dR tys k4 s15 s16 Zj Zr Z18 Z1d Z14]
def dw67:List MRow:=[dR tys k4 s16 s16 Zg (an 0 0 0 0 (.str 0 0) (.slice k1x 0 1 (.more 1))) [] [k0] [(k1x,.cells 9 [.str 1 98] true 0),(ke,.dead),(k2b,.dead)]]
def dw68:List MRow:=[dR tys k4 s14 s17 Zh Zr Z18 Z1b Z13]
def dw69:List MRow:=[dR tys k4 s17 s18 Zi Zr Z18 Z1d Z12]
def dw70:List MRow:=[dR tys k4 s18 s19 Zj Zr Z18 Z1b Z14]
def dw71:List MRow:=[dR tys k4 s19 s19 Z2 Zs [] [k0] Z10]
def dw72:List MRow:=[dR tys k4 s19 s19 Zk (an 0 0 0 0 (.str 0 0) (.slice k1x 0 1 (.more 1))) [] [k0] [(k1x,.cells 9 [.str 1 98] true 0),(ke,.dead),(k2b,.dead)]]
def dw73:List MRow:=[dR tys k4 s17 s1a Zl Zr Z18 Z1d Z12]
def dw74:List MRow:=[dR tys k4 s1a s1b Zj Zr Z18 Z1b Z15]
def dw75:List MRow:=[dR tys k4 s1b s1c Zm Zr Z18 Z1c Z13]
def dw76:List MRow:=[dR tys k4 s1c s1c Z2 Zs [] [k0] Z10]
def dw77:List MRow:=[dR tys k4 s1c s1c (cl 1 3 (.str 14 2457931243309345224102379917374511) (.str 0 0) 0 0 0 0 (.str 0 0)) (an 0 0 0 0 (.str 0 0) (.slice k2f 0 1 (.more 1))) [] [k0] [(k2f,.cells 9 [.str 1 98] true 0),(ke,.dead),(k2b,.dead)]]
def dw78:List MRow:=[dR tys k4 s1b s1d Zn Zr Z18 Z1c Z13]
def dw79:List MRow:=[dR tys k4 s1d s1d Zo Zt [] [k0] Z17]
def dw80:List MRow:=[dR tys k4 s1d s1d (cl 1 1 (.str 4 1647278127) (.str 0 0) 0 0 0 0 (.str 0 0)) Zu [] [k0] Z17]
def dw81:List MRow:=[dR tys k4 st s1e (cl 1 6 (.str 6 107955650263087) (.str 0 0) 0 0 0 420 (.str 6 127978876068212)) Zr Z18 Z1b Z16]
def dw82:List MRow:=[dR tys k4 s1e s1f Z0 Zr Z18 Z1c Zw]
def dw83:List MRow:=[dR tys k4 s1f s1f Z2 Zs [] [k0] Zx]
def dw84:List MRow:=[dR tys k4 s1f s1g Z9 Zr Z18 Z1b Zv]
def dw85:List MRow:=[dR tys k4 s1g s1g Z3 (an 0 0 0 0 (.str 0 0) (.slice k2f 0 1 (.more 1))) [] [k0] [(k2f,.cells 9 [.str 1 98] true 0),(ke,.dead),(k2b,.dead)]]
def dw86:List MRow:=[dR tys k4 s1e s1h Z4 Zr Z18 Z1c Zw]
def dw87:List MRow:=[dR tys k4 s1h s1i Z5 Zr Z18 Z1b Zz]
def dw88:List MRow:=[dR tys k4 s1i s1j Z9 Zr Z18 Z1c Zv]
def dw89:List MRow:=[dR tys k4 s1j s1j Z2 Zs [] [k0] Z10]
def dw90:List MRow:=[dR tys k4 s1j s1j Z6 (an 0 0 0 0 (.str 0 0) (.slice k2f 0 1 (.more 1))) [] [k0] [(k2f,.cells 9 [.str 1 98] true 0),(ke,.dead),(k2b,.dead)]]
def dw91:List MRow:=[dR tys k4 s1h s1k Z7 Zr Z18 Z1b Zz]
def dw92:List MRow:=[dR tys k4 s1k s1l Z9 Zr Z18 Z1c Z11]
def dw93:List MRow:=[dR tys k4 s1l s1m Z8 Zr Z18 Z1d Z12]
def dw94:List MRow:=[dR tys k4 s1m s1m Z2 Zs [] [k0] Z10]
def dw95:List MRow:=[dR tys k4 s1m s1m Za (an 0 0 0 0 (.str 0 0) (.slice k2a 0 1 (.more 1))) [] [k0] [(k2a,.cells 9 [.str 1 98] true 0),(ke,.dead),(k2b,.dead)]]
def dw96:List MRow:=[dR tys k4 s1l s1n Zb Zr Z18 Z1d Z12]
def dw97:List MRow:=[dR tys k4 s1n s1o Zc Zr Z18 Z1b Z13]
def dw98:List MRow:=[dR tys k4 s1o s1o Z2 Zs [] [k0] Z10]
def dw99:List MRow:=[dR tys k4 s1o s1p Zj Zr Z18 Z1d Z14]
def dw100:List MRow:=[dR tys k4 s1p s1p Zd (an 0 0 0 0 (.str 0 0) (.slice k1x 0 1 (.more 1))) [] [k0] [(k1x,.cells 9 [.str 1 98] true 0),(ke,.dead),(k2b,.dead)]]
def dw101:List MRow:=[dR tys k4 s1n s1q Ze Zr Z18 Z1b Z13]
def dw102:List MRow:=[dR tys k4 s1q s1r Zf Zr Z18 Z1d Z12]
def dw103:List MRow:=[dR tys k4 s1r s1s Zj Zr Z18 Z1b Z14]
def dw104:List MRow:=[dR tys k4 s1s s1s Z2 Zs [] [k0] Z10]
def dw105:List MRow:=[dR tys k4 s1s s1s Zg (an 0 0 0 0 (.str 0 0) (.slice k1x 0 1 (.more 1))) [] [k0] [(k1x,.cells 9 [.str 1 98] true 0),(ke,.dead),(k2b,.dead)]]
def dw106:List MRow:=[dR tys k4 s1q s1t Zh Zr Z18 Z1d Z12]
def dw107:List MRow:=[dR tys k4 s1t s1u Zj Zr Z18 Z1b Z15]
def dw108:List MRow:=[dR tys k4 s1u s1v Zi Zr Z18 Z1c Z13]
def dw109:List MRow:=[dR tys k4 s1v s1v Z2 Zs [] [k0] Z10]
def dw110:List MRow:=[dR tys k4 s1v s1v Zk (an 0 0 0 0 (.str 0 0) (.slice k2f 0 1 (.more 1))) [] [k0] [(k2f,.cells 9 [.str 1 98] true 0),(ke,.dead),(k2b,.dead)]]
def dw111:List MRow:=[dR tys k4 s1u s1w Zl Zr Z18 Z1c Z13]
def dw112:List MRow:=[dR tys k4 s1w s1w Zm Zt [] [k0] Z17]
def dw113:List MRow:=[dR tys k4 s1w s1w (cl 1 1 (.str 6 107955650263087) (.str 0 0) 0 0 0 0 (.str 0 0)) Zu [] [k0] Z17]
def dw114:List MRow:=[dR tys k4 s1w s1x Zn Zr Z18 Z1d Z15]
def dw115:List MRow:=[dR tys k4 s1x s1x Zo Zt [] [k0] Z17]
def dw116:List MRow:=[dR tys k4 s1x s1y Zp Zr Z18 Z1c Z12]
def dw117:List MRow:=[dR tys k4 s1y s1y (cl 1 1 (.str 6 107955650263087) (.str 0 0) 0 0 0 0 (.str 0 0)) Zu [] [k0] Z17]
def dw118:List MRow:=[dR tys k4 s1e s1z (cl 1 6 (.str 8 7074981495272601647) (.str 0 0) 0 0 0 420 (.str 6 127978876068212)) Zr Z18 Z1c Zw]
def dw119:List MRow:=[dR tys k4 s1z s20 Z0 Zr Z18 Z1b Z16]
def dw120:List MRow:=[dR tys k4 s20 s21 Z9 Zr Z18 Z1c Zv]
def dw121:List MRow:=[dR tys k4 s21 s21 Z2 Zs [] [k0] Z10]
def dw122:List MRow:=[dR tys k4 s21 s21 Z3 (an 0 0 0 0 (.str 0 0) (.slice k2f 0 1 (.more 1))) [] [k0] [(k2f,.cells 9 [.str 1 98] true 0),(ke,.dead),(k2b,.dead)]]
def dw123:List MRow:=[dR tys k4 s1z s22 Z4 Zr Z18 Z1b Z16]
def dw124:List MRow:=[dR tys k4 s22 s23 Z9 Zr Z18 Z1c Z11]
def dw125:List MRow:=[dR tys k4 s23 s24 Z5 Zr Z18 Z1d Z12]
def dw126:List MRow:=[dR tys k4 s24 s24 Z2 Zs [] [k0] Z10]
def dw127:List MRow:=[dR tys k4 s24 s24 Z6 (an 0 0 0 0 (.str 0 0) (.slice k2a 0 1 (.more 1))) [] [k0] [(k2a,.cells 9 [.str 1 98] true 0),(ke,.dead),(k2b,.dead)]]
def dw128:List MRow:=[dR tys k4 s23 s25 Z7 Zr Z18 Z1d Z12]
def dw129:List MRow:=[dR tys k4 s25 s26 Z8 Zr Z18 Z1b Z13]
def dw130:List MRow:=[dR tys k4 s26 s26 Z2 Zs [] [k0] Z10]
def dw131:List MRow:=[dR tys k4 s26 s27 Zj Zr Z18 Z1d Z14]
def dw132:List MRow:=[dR tys k4 s27 s27 Za (an 0 0 0 0 (.str 0 0) (.slice k1x 0 1 (.more 1))) [] [k0] [(k1x,.cells 9 [.str 1 98] true 0),(ke,.dead),(k2b,.dead)]]
def dw133:List MRow:=[dR tys k4 s25 s28 Zb Zr Z18 Z1b Z13]
def dw134:List MRow:=[dR tys k4 s28 s29 Zc Zr Z18 Z1d Z12]
def dw135:List MRow:=[dR tys k4 s29 s2a Zj Zr Z18 Z1b Z14]
def dw136:List MRow:=[dR tys k4 s2a s2a Z2 Zs [] [k0] Z10]
def dw137:List MRow:=[dR tys k4 s2a s2a Zd (an 0 0 0 0 (.str 0 0) (.slice k1x 0 1 (.more 1))) [] [k0] [(k1x,.cells 9 [.str 1 98] true 0),(ke,.dead),(k2b,.dead)]]
def dw138:List MRow:=[dR tys k4 s28 s2b Ze Zr Z18 Z1d Z12]
def dw139:List MRow:=[dR tys k4 s2b s2c Zj Zr Z18 Z1b Z15]
def dw140:List MRow:=[dR tys k4 s2c s2d Zf Zr Z18 Z1c Z13]
def dw141:List MRow:=[dR tys k4 s2d s2d Z2 Zs [] [k0] Z10]
def dw142:List MRow:=[dR tys k4 s2d s2d Zg (an 0 0 0 0 (.str 0 0) (.slice k2f 0 1 (.more 1))) [] [k0] [(k2f,.cells 9 [.str 1 98] true 0),(ke,.dead),(k2b,.dead)]]
def dw143:List MRow:=[dR tys k4 s2c s2e Zh Zr Z18 Z1c Z13]
def dw144:List MRow:=[dR tys k4 s2e s2e Zi Zt [] [k0] Z17]
def dw145:List MRow:=[dR tys k4 s2e s2e Zq Zu [] [k0] Z17]
def dw146:List MRow:=[dR tys k4 s2e s2f Zl Zr Z18 Z1d Z15]
def dw147:List MRow:=[dR tys k4 s2f s2f Zm Zt [] [k0] Z17]
def dw148:List MRow:=[dR tys k4 s2f s2g Zp Zr Z18 Z1c Z12]
def dw149:List MRow:=[dR tys k4 s2g s2g Zq Zu [] [k0] Z17]
def dw150:List MRow:=[dR tys k4 s2f s2h Zn Zr Z18 Z1c Z13]
def dw151:List MRow:=[dR tys k4 s2h s2i Zp Zr Z18 Z1d Z12]
def dw152:List MRow:=[dR tys k4 s2i s2i Zo Zt [] [k0] Z17]
def dw153:List MRow:=[dR tys k4 s2i s2i Zq Zu [] [k0] Z17]
def dw154:List MRow:=[dR tys k4 s0 s2j [.ptr k0 0,.agg [.int .i64 3,.str 1 116,.str 0 0,.str 19 1318739858033904608473444756492996921336492646,.nilSlice,.int .i64 0,.int .i64 0,.str 0 0,.str 0 0,.int .i64 0,.int .i64 0,.int .i64 0,.int .i64 0,.str 0 0]] Zr [k5,k6,kh] [kv,kw,kx,ky,kz,k10,k11,k12,k13,k14,k15,k16,k17,k18,k19,k1a,k1b,k1c,k1d,k1e,k0,k1,k2,k8,ka,kc,kg,km,kq,kr,kt,ku] [(kh,.dead)]]
def dw155:List MRow:=[dR tys k4 s2j s2k [.ptr k0 0,.agg [.int .i64 4,.str 1 116,.str 0 0,.str 17 20131413071242410322311321564098966089572,.nilSlice,.int .i64 0,.int .i64 0,.str 0 0,.str 0 0,.int .i64 0,.int .i64 0,.int .i64 0,.int .i64 0,.str 0 0]] (.tup [.agg [.int .i64 0,.int .i64 0,.int .i64 1,.str 0 0,.nilSlice,.nilSlice,.int .i64 0,.int .i64 0,.int .i64 0,.int .i64 0,.str 0 0,.nilSlice,.int .i64 0,.int .i64 0],.int .i64 0]) [k5,k6,kh,k19,k1c,k1d,k1e] [k1g,k1h,k1l,k1m,k1n,k1p,k1q,k1s,k0,k1,k2,k8,ka,kg,km,kr,ku,ky,k12,k1b] [(kh,.dead),(k19,.dead),(k1c,.dead)]]
def dw156:List MRow:=[dR tys k4 s2k s2l [.ptr k0 0,.agg [.int .i64 5,.str 0 0,.str 0 0,.str 0 0,.nilSlice,.int .i64 1,.int .i64 0,.str 0 0,.str 0 0,.int .i64 0,.int .i64 0,.int .i64 0,.int .i64 0,.str 0 0]] Zr [k5,k6,kh,k19,k1c,k1e] [k1v,k1w,k1x,k1y,k0,k1,k8,ka,kg,km,kr,ku,k14] [(kh,.dead),(k19,.dead),(k1q,.dead),(k1c,.dead)]]
def drows:List MRow:=dw0 ++ (dw1 ++ (dw2 ++ (dw3 ++ (dw4 ++ (dw5 ++ (dw6 ++ (dw7 ++ (dw8 ++ (dw9 ++ (dw10 ++ (dw11 ++ (dw12 ++ (dw13 ++ (dw14 ++ (dw15 ++ (dw16 ++ (dw17 ++ (dw18 ++ (dw19 ++ (dw20 ++ (dw21 ++ (dw22 ++ (dw23 ++ (dw24 ++ (dw25 ++ (dw26 ++ (dw27 ++ (dw28 ++ (dw29 ++ (dw30 ++ (dw31 ++ (dw32 ++ (dw33 ++ (dw34 ++ (dw35 ++ (dw36 ++ (dw37 ++ (dw38 ++ (dw39 ++ (dw40 ++ (dw41 ++ (dw42 ++ (dw43 ++ (dw44 ++ (dw45 ++ (dw46 ++ (dw47 ++ (dw48 ++ (dw49 ++ (dw50 ++ (dw51 ++ (dw52 ++ (dw53 ++ (dw54 ++ (dw55 ++ (dw56 ++ (dw57 ++ (dw58 ++ (dw59 ++ (dw60 ++ (dw61 ++ (dw62 ++ (dw63 ++ (dw64 ++ (dw65 ++ (dw66 ++ (dw67 ++ (dw68 ++ (dw69 ++ (dw70 ++ (dw71 ++ (dw72 ++ (dw73 ++ (dw74 ++ (dw75 ++ (dw76 ++ (dw77 ++ (dw78 ++ (dw79 ++ (dw80 ++ (dw81 ++ (dw82 ++ (dw83 ++ (dw84 ++ (dw85 ++ (dw86 ++ (dw87 ++ (dw88 ++ (dw89 ++ (dw90 ++ (dw91 ++ (dw92 ++ (dw93 ++ (dw94 ++ (dw95 ++ (dw96 ++ (dw97 ++ (dw98 ++ (dw99 ++ (dw100 ++ (dw101 ++ (dw102 ++ (dw103 ++ (dw104 ++ (dw105 ++ (dw106 ++ (dw107 ++ (dw108 ++ (dw109 ++ (dw110 ++ (dw111 ++ (dw112 ++ (dw113 ++ (dw114 ++ (dw115 ++ (dw116 ++ (dw117 ++ (dw118 ++ (dw119 ++ (dw120 ++ (dw121 ++ (dw122 ++ (dw123 ++ (dw124 ++ (dw125 ++ (dw126 ++ (dw127 ++ (dw128 ++ (dw129 ++ (dw130 ++ (dw131 ++ (dw132 ++ (dw133 ++ (dw134 ++ (dw135 ++ (dw136 ++ (dw137 ++ (dw138 ++ (dw139 ++ (dw140 ++ (dw141 ++ (dw142 ++ (dw143 ++ (dw144 ++ (dw145 ++ (dw146 ++ (dw147 ++ (dw148 ++ (dw149 ++ (dw150 ++ (dw151 ++ (dw152 ++ (dw153 ++ (dw154 ++ (dw155 ++ (dw156))))))))))))))))))))))))))))))))))))))))))))))))))))))))))))))))))))))))))))))))))))))))))))))))))))))))))))))))))))))))))))))))))))))))))))))))))))))))))))
def brows:List MRow:=[]
def yr0 : ORow := ⟨[.ptr ⟨.d0, .d0, .d0, .d0, .d1⟩ 0], [(⟨.d0, .d0, .d0, .d0, .d1⟩, .fixed 276 [.int .i64 1, .rng 0 1024, .ustr 5, .junk, .junk, .junk, .junk, .nilSlice, .junk, .rng 0 4096, .rng 0 4096, .junk])], .ustr 63⟩
def yr1 : ORow := ⟨[.ptr ⟨.d0, .d0, .d0, .d0, .d1⟩ 0], [(⟨.d0, .d0, .d0, .d0, .d1⟩, .fixed 276 [.int .i64 1, .rng 0 1024, .ustr 6, .junk, .junk, .junk, .junk, .slice ⟨.d1, .d0, .d0, .d0, .d1⟩ 0 1 (.more 1), .junk, .rng 0 4096, .rng 0 4096, .junk]), (⟨.d1, .d0, .d0, .d0, .d1⟩, .fixed 3 [.rng 0 4096])], .ustr 63⟩
def yr2 : ORow := ⟨[.ptr ⟨.d0, .d0, .d0, .d0, .d1⟩ 0], [(⟨.d0, .d0, .d0, .d0, .d1⟩, .fixed 276 [.int .i64 2, .rng 0 1024, .ustr 3, .junk, .junk, .junk, .junk, .junk, .nilSlice, .rng 0 4096, .rng 0 4096, .junk])], .ustr 63⟩
def yr3 : ORow := ⟨[.ptr ⟨.d0, .d0, .d0, .d0, .d1⟩ 0], [(⟨.d0, .d0, .d0, .d0, .d1⟩, .fixed 276 [.int .i64 2, .rng 0 1024, .ustr 3, .junk, .junk, .junk, .junk, .junk, .slice ⟨.d1, .d0, .d0, .d0, .d1⟩ 0 1 (.is 1), .rng 0 4096, .rng 0 4096, .junk]), (⟨.d1, .d0, .d0, .d0, .d1⟩, .fixed 3 [.rng 0 4096])], .ustr 63⟩
def yr4 : ORow := ⟨[.ptr ⟨.d0, .d0, .d0, .d0, .d1⟩ 0], [(⟨.d0, .d0, .d0, .d0, .d1⟩, .fixed 276 [.int .i64 1, .rng 0 1024, .ustr 6, .junk, .junk, .junk, .junk, .slice ⟨.d1, .d0, .d0, .d0, .d1⟩ 0 0 (.more 1), .junk, .rng 0 4096, .rng 0 4096, .junk]), (⟨.d1, .d0, .d0, .d0, .d1⟩, .fixed 3 [.rng 0 4096])], .ustr 63⟩
def yr5 : ORow := ⟨[.ptr ⟨.d0, .d0, .d0, .d0, .d1⟩ 0], [(⟨.d0, .d0, .d0, .d0, .d1⟩, .fixed 276 [.int .i64 2, .rng 0 1024, .ustr 12, .junk, .junk, .junk, .junk, .junk, .slice ⟨.d1, .d0, .d0, .d0, .d1⟩ 0 1 (.is 1), .rng 0 4096, .rng 0 4096, .junk]), (⟨.d1, .d0, .d0, .d0, .d1⟩, .fixed 3 [.rng 0 4096])], .ustr 63⟩
def yr6 : ORow := ⟨[.ptr ⟨.d0, .d0, .d0, .d0, .d1⟩ 0], [(⟨.d0, .d0, .d0, .d0, .d1⟩, .fixed 276 [.int .i64 1, .rng 0 1024, .ustr 5, .junk, .junk, .junk, .junk, .slice ⟨.d1, .d0, .d0, .d0, .d1⟩ 0 1 (.more 1), .junk, .rng 0 4096, .rng 0 4096, .junk]), (⟨.d1, .d0, .d0, .d0, .d1⟩, .fixed 3 [.rng 0 4096])], .ustr 63⟩
def yr7 : ORow := ⟨[.ptr ⟨.d0, .d0, .d0, .d0, .d1⟩ 0], [(⟨.d0, .d0, .d0, .d0, .d1⟩, .fixed 276 [.int .i64 1, .rng 0 1024, .ustr 5, .junk, .junk, .junk, .junk, .slice ⟨.d1, .d0, .d0, .d0, .d1⟩ 0 0 (.more 1), .junk, .rng 0 4096, .rng 0 4096, .junk]), (⟨.d1, .d0, .d0, .d0, .d1⟩, .fixed 3 [.rng 0 4096])], .ustr 63⟩
def yr8 : ORow := ⟨[.ptr ⟨.d0, .d0, .d0, .d0, .d1⟩ 0], [(⟨.d0, .d0, .d0, .d0, .d1⟩, .fixed 276 [.int .i64 2, .rng 0 1024, .ustr 5, .junk, .junk, .junk, .junk, .junk, .slice ⟨.d1, .d0, .d0, .d0, .d1⟩ 0 1 (.is 1), .rng 0 4096, .rng 0 4096, .junk]), (⟨.d1, .d0, .d0, .d0, .d1⟩, .fixed 3 [.rng 0 4096])], .ustr 63⟩
def yr9 : ORow := ⟨[.ptr ⟨.d0, .d0, .d0, .d0, .d1⟩ 0], [(⟨.d0, .d0, .d0, .d0, .d1⟩, .fixed 276 [.int .i64 2, .rng 0 1024, .ustr 6, .junk, .junk, .junk, .junk, .junk, .nilSlice, .rng 0 4096, .rng 0 4096, .junk])], .ustr 63⟩
def yr10 : ORow := ⟨[.ptr ⟨.d0, .d0, .d0, .d0, .d1⟩ 0], [(⟨.d0, .d0, .d0, .d0, .d1⟩, .fixed 276 [.int .i64 2, .rng 0 1024, .ustr 6, .junk, .junk, .junk, .junk, .junk, .slice ⟨.d1, .d0, .d0, .d0, .d1⟩ 0 1 (.is 1), .rng 0 4096, .rng 0 4096, .junk]), (⟨.d1, .d0, .d0, .d0, .d1⟩, .fixed 3 [.rng 0 4096])], .ustr 63⟩
def yr11 : ORow := ⟨[.ptr ⟨.d0, .d0, .d0, .d0, .d1⟩ 0], [(⟨.d0, .d0, .d0, .d0, .d1⟩, .fixed 276 [.int .i64 2, .rng 0 1024, .ustr 7, .junk, .junk, .junk, .junk, .junk, .nilSlice, .rng 0 4096, .rng 0 4096, .junk])], .ustr 63⟩
def yr12 : ORow := ⟨[.ptr ⟨.d0, .d0, .d0, .d0, .d1⟩ 0], [(⟨.d0, .d0, .d0, .d0, .d1⟩, .fixed 276 [.int .i64 2, .rng 0 1024, .ustr 7, .junk, .junk, .junk, .junk, .junk, .slice ⟨.d1, .d0, .d0, .d0, .d1⟩ 0 1 (.is 1), .rng 0 4096, .rng 0 4096, .junk]), (⟨.d1, .d0, .d0, .d0, .d1⟩, .fixed 3 [.rng 0 4096])], .ustr 63⟩
def yrows : List ORow := [yr0, yr1, yr2, yr3, yr4, yr5, yr6, yr7, yr8, yr9, yr10, yr11, yr12]
end
end Go.Proofs.YtbblahphgmkgnaaGreatDoor
