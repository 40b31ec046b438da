/- What the laws of this part rest on: lemmas, and the walks of the functions. No conditions. -/
import Derived.WalkKit
import Derived.WalkSpells
import Derived.WalkLawsBesides
import Derived.RangeFuncLeaves
import Derived.Maps.AppendAt
import Derived.Deep.AppendLies
import Derived.Deep.Slices
import Derived.OpenShut
import Derived.ProofKit
import Derived.Below
import Derived.ChangeSame
import Derived.Carry
import Derived.RangeFuncRecord
import Derived.Laws.Tables
import Derived.Recover
import Derived.DefersIn
import Derived.Lib.AppendZerosOnto
import Derived.Lib.Overlaps
import Derived.Laws.CopyRow
import Derived.Laws.StructEq
import Derived.ChangeKeysEq
import Derived.OrdersIn
import Derived.Test.YtjgfokolnkhafaaRows
import Derived.Test.YtjgfokolnkhafaaPC45
set_option linter.unusedSimpArgs false
set_option linter.unusedVariables false
namespace Go.Proofs.Ytjgfokolnkhafaa
open Go.Fw Go.RowKit
def kC:Circle:=(KQ [3,5,8] 2 0).1
def kL:List Share:=(AM kC [7] [9]).1
def kX:Circle:=(AK kC kL [4]).1
def kA:Circle:=(AV kC 1).1
def ND:Circle:=(BO kA (AV kC 1).2.1 (BA kA 3)).1
def NE:Circle:=(BO ND (AV kC 1).2.1 (BA ND 8)).1
def CZ:Circle:=(BO NE (AV kC 1).2.1 (AY NE 1)).1
def kZ:Circle:=(AJ CZ (kL.take 2) [(4:Int)] 1 []).1
def kW:List Share:=(AJ CZ (kL.take 2) [(4:Int)] 1 []).2.1
def kE:Int:=(AJ CZ (kL.take 2) [(4:Int)] 1 []).2.2
set_option maxHeartbeats 4000000 in
set_option maxRecDepth 100000 in
theorem c_sane46 {O:List Nat} (w:World) (hO:∀ b∈O,b<w.heap.size):CF Try.prog 20 [] w (fun v _=>v = .bool (true)):= by
 have s0:St w O w []:=St.start hO
 refine BQ 252 Try.func20 rfl rfl oT (fun F0=>?_)
 refine AG (?_)
 refine AB kR (AA (AD (vO false) rfl (AF (AC (?_)))))
 refine AG (?_)
 refine AB kR (AA (IK (E:=Enc.int) (xs:=[.const (vI 3), .const (vI 5), .const (vI 8)]) U22_ MW z_3 (by decide) [vI 3,vI 5,vI 8] [[vI 3],[vI 5],[vI 8]] [(3:Int),(5:Int),(8:Int)] rfl rfl rfl (Parts.cons rfl rfl (Parts.cons rfl rfl (Parts.cons rfl rfl (Parts.nil _ _ _)))) oT s0 fun v7071 w7067 s7068 m7069 k7070 hl7072=>(?_)))
 have:=hl7072.len_le
 refine AA (BB (vs:=[v7071,vI 2,vI 0]) enter_10 (c_new (O:=[]++O) v7071 ([(3:Int),(5:Int),(8:Int)]) (2:Int) (0:Int) w7067 hl7072 (by (simp;done)) s7068.lt) rfl s7068 fun v7073 w7074 s7075 m7076 k7077 r7078=>(?_))
 obtain ⟨cs7079,rfl,hs7080⟩:=r7078
 have hs7080:Enc.circle.rd w7074 ([]++O) cs7079 kC:=hs7080
 refine AA (AE (vT #[vA cs7079.toArray,vI ((KQ ([(3:Int),(5:Int),(8:Int)]) (2:Int) (0:Int)).2)]) rfl (AA (AN (vA cs7079.toArray) rfl rfl (AA (AN (vI ((KQ ([(3:Int),(5:Int),(8:Int)]) (2:Int) (0:Int)).2)) rfl rfl (AA (CX [vI 0,vI 0,vI 0,nS,nS] II rfl s7075 fun b7081 w7082 e7087 s7083 m7084 k7085 bx7086=>(?_))))))))
 clear e7087
 have hs7080:Enc.circle.rd w7082 ((b7081 :: [])++O) cs7079 (kC):=Enc.mv Enc.circle (x:=kC) hs7080 m7084
 obtain ⟨d7093,d7095,rfl,hd7094,hd7096⟩:=hs7080
 have:=hd7094.len_le
 have:=hd7096.len_le
 refine BY (BC (vs:=[vI kC.epoch,vI kC.threshold,vI kC.wait,d7093,d7095]) (.agg #[vI kC.epoch,vI kC.threshold,vI kC.wait,d7093,d7095]) rfl rfl rfl BL (fun u hu=>by simp only [List.mem_cons,List.not_mem_nil,or_false] at hu;rcases hu with rfl|rfl|rfl|rfl|rfl <;> first|rfl|exact hd7094.oneCell|exact hd7096.oneCell) (by repeat (constructor)) bx7086 oT s7083 fun w7088 s7089 m7090 k7091 bx7092=>(?_))
 have hd7094:=hd7094.mv m7090
 have hd7096:=hd7096.mv m7090
 refine AA (AD (vI ((KQ ([(3:Int),(5:Int),(8:Int)]) (2:Int) (0:Int)).2)) rfl (AF (AC (?_))))
 refine AG (?_)
 refine AB kR (AA (BN (vs:=[vI kC.epoch,vI kC.threshold,vI kC.wait,d7093,d7095]) U28_ rfl BL rfl bx7092 rfl (AA (IK (E:=Enc.u8) (xs:=[.const (vB (7:UInt8))]) U23_ IJ z_5 (by decide) [vB (7:UInt8)] [[vB (7:UInt8)]] [(7:UInt8)] rfl rfl rfl (Parts.cons rfl rfl (Parts.nil _ _ _)) oT s7089 fun v7101 w7097 s7098 m7099 k7100 hl7102=>(?_)))))
 have hd7094:=hd7094.mv m7099
 have hd7096:=hd7096.mv m7099
 have bx7092:=bx7092.keep k7100 (by simp)
 have:=hl7102.len_le
 refine AA (IK (E:=Enc.u8) (xs:=[.const (vB (9:UInt8))]) U23_ IJ z_5 (by decide) [vB (9:UInt8)] [[vB (9:UInt8)]] [(9:UInt8)] rfl rfl rfl (Parts.cons rfl rfl (Parts.nil _ _ _)) oT s7098 fun v7107 w7103 s7104 m7105 k7106 hl7108=>(?_))
 have hd7094:=hd7094.mv m7105
 have hd7096:=hd7096.mv m7105
 have hl7102:=hl7102.mv m7105
 have bx7092:=bx7092.keep k7106 (by simp)
 have:=hl7108.len_le
 refine AA (BB (vs:=[vA #[vI kC.epoch,vI kC.threshold,vI kC.wait,d7093,d7095],v7101,v7107]) NA (SV (O:=(b7081 :: [])++O) [vI kC.epoch,vI kC.threshold,vI kC.wait,d7093,d7095] kC v7101 ([(7:UInt8)]) v7107 ([(9:UInt8)]) w7103 ⟨_,_,rfl,hd7094,hd7096⟩ hl7102 hl7108 s7104.lt) rfl s7104 fun v7109 w7110 s7111 m7112 k7113 r7114=>(?_))
 obtain ⟨x7115,rfl,hl7116⟩:=r7114
 have:=hl7116.len_le
 have hl7116:BG Enc.share w7110 ((b7081 :: [])++O) x7115 kL:=hl7116
 have hd7094:=hd7094.mv m7112
 have hd7096:=hd7096.mv m7112
 have bx7092:=bx7092.keep k7113 (by simp)
 refine AA (AE (vT #[x7115,vI ((AM kC ([(7:UInt8)]) ([(9:UInt8)])).2)]) rfl (AA (AN (x7115) rfl rfl (AA (AN (vI ((AM kC ([(7:UInt8)]) ([(9:UInt8)])).2)) rfl rfl (AA (AD (x7115) rfl (AA (AD (vI ((AM kC ([(7:UInt8)]) ([(9:UInt8)])).2)) rfl (AF (AC (?_))))))))))))
 refine AG (?_)
 refine AB kR (AA (BN (vs:=[vI kC.epoch,vI kC.threshold,vI kC.wait,d7093,d7095]) U28_ rfl BL rfl bx7092 rfl (AA (AE (x7115) rfl (AA (IK (E:=Enc.u8) (xs:=[.const (vB (4:UInt8))]) U23_ IJ z_5 (by decide) [vB (4:UInt8)] [[vB (4:UInt8)]] [(4:UInt8)] rfl rfl rfl (Parts.cons rfl rfl (Parts.nil _ _ _)) oT s7111 fun v7121 w7117 s7118 m7119 k7120 hl7122=>(?_)))))))
 have hl7116:=hl7116.mv m7119
 have hd7094:=hd7094.mv m7119
 have hd7096:=hd7096.mv m7119
 have bx7092:=bx7092.keep k7120 (by simp)
 have:=hl7122.len_le
 refine AA (BB (vs:=[vA #[vI kC.epoch,vI kC.threshold,vI kC.wait,d7093,d7095],x7115,v7121]) PS (SK (O:=(b7081 :: [])++O) [vI kC.epoch,vI kC.threshold,vI kC.wait,d7093,d7095] kC x7115 kL v7121 ([(4:UInt8)]) w7117 ⟨_,_,rfl,hd7094,hd7096⟩ hl7116 hl7122 s7118.lt) rfl s7118 fun v7123 w7124 s7125 m7126 k7127 r7128=>(?_))
 obtain ⟨cs7129,x7131,rfl,hs7130,hl7132⟩:=r7128
 have:=hl7132.len_le
 have hs7130:Enc.circle.rd w7124 ((b7081 :: [])++O) cs7129 kX:=hs7130
 have hl7116:=hl7116.mv m7126
 have hd7094:=hd7094.mv m7126
 have hd7096:=hd7096.mv m7126
 have bx7092:=bx7092.keep k7127 (by simp)
 refine AA (AE (vT #[vA cs7129.toArray,x7131,vI ((AK kC kL ([(4:UInt8)])).2.2)]) rfl (AA (AN (vA cs7129.toArray) rfl rfl (AA (AN (x7131) rfl rfl (AA (AN (vI ((AK kC kL ([(4:UInt8)])).2.2)) rfl rfl (AA (CX [vI 0,vI 0,vI 0,nS,nS] II rfl s7125 fun b7133 w7134 e7139 s7135 m7136 k7137 bx7138=>(?_))))))))))
 have ne7140:FH b7081 b7133:=by show b7081≠b7133;have:=bx7092.lt;omega
 clear e7139
 have hl7116:=hl7116.mv m7136
 have hd7094:=hd7094.mv m7136
 have hd7096:=hd7096.mv m7136
 have hs7130:Enc.circle.rd w7134 ((b7133 :: (b7081 :: []))++O) cs7129 (kX):=Enc.mv Enc.circle (x:=kX) hs7130 m7136
 have hl7132:=hl7132.mv m7136
 have bx7092:=bx7092.keep k7137 (by simp)
 obtain ⟨d7146,d7148,rfl,hd7147,hd7149⟩:=hs7130
 have:=hd7147.len_le
 have:=hd7149.len_le
 refine BY (BC (vs:=[vI kX.epoch,vI kX.threshold,vI kX.wait,d7146,d7148]) (.agg #[vI kX.epoch,vI kX.threshold,vI kX.wait,d7146,d7148]) rfl rfl rfl BL (fun u hu=>by simp only [List.mem_cons,List.not_mem_nil,or_false] at hu;rcases hu with rfl|rfl|rfl|rfl|rfl <;> first|rfl|exact hd7147.oneCell|exact hd7149.oneCell) (by repeat (constructor)) bx7138 oT s7135 fun w7141 s7142 m7143 k7144 bx7145=>(?_))
 have hl7116:=hl7116.mv m7143
 have hd7094:=hd7094.mv m7143
 have hd7096:=hd7096.mv m7143
 have hl7132:=hl7132.mv m7143
 have hd7147:=hd7147.mv m7143
 have hd7149:=hd7149.mv m7143
 have bx7092:=bx7092.keep k7144 (BH ne7140)
 refine AA (AD (x7131) rfl (AA (AD (vI ((AK kC kL ([(4:UInt8)])).2.2)) rfl (AF (AC (?_))))))
 refine AG (?_)
 refine AB kR (AA (BN (vs:=[vI kC.epoch,vI kC.threshold,vI kC.wait,d7093,d7095]) U28_ rfl BL rfl bx7092 rfl (AA (BB (vs:=[vA #[vI kC.epoch,vI kC.threshold,vI kC.wait,d7093,d7095],vI 1]) SU (c_ask (O:=(b7133 :: (b7081 :: []))++O) [vI kC.epoch,vI kC.threshold,vI kC.wait,d7093,d7095] kC (1:Int) w7141 ⟨_,_,rfl,hd7094,hd7096⟩ s7142.lt) rfl s7142 fun v7150 w7151 s7152 m7153 k7154 r7155=>(?_)))))
 obtain ⟨cs7156,rfl,hs7157⟩:=r7155
 have hs7157:Enc.circle.rd w7151 ((b7133 :: (b7081 :: []))++O) cs7156 kA:=hs7157
 have hl7116:=hl7116.mv m7153
 have hl7132:=hl7132.mv m7153
 have hd7147:=hd7147.mv m7153
 have hd7149:=hd7149.mv m7153
 have bx7092:=bx7092.keep k7154 (by simp)
 have bx7145:=bx7145.keep k7154 (by simp)
 refine AA (AE (vT #[vA cs7156.toArray,vI ((AV kC (1:Int)).2.1),vI ((AV kC (1:Int)).2.2)]) rfl (AA (AN (vA cs7156.toArray) rfl rfl (AA (AN (vI ((AV kC (1:Int)).2.1)) rfl rfl (AA (AN (vI ((AV kC (1:Int)).2.2)) rfl rfl (?_))))))))
 obtain ⟨d7163,d7165,rfl,hd7164,hd7166⟩:=hs7157
 have:=hd7164.len_le
 have:=hd7166.len_le
 refine BY (BC (vs:=[vI kA.epoch,vI kA.threshold,vI kA.wait,d7163,d7165]) (.agg #[vI kA.epoch,vI kA.threshold,vI kA.wait,d7163,d7165]) rfl rfl rfl BL (fun u hu=>by simp only [List.mem_cons,List.not_mem_nil,or_false] at hu;rcases hu with rfl|rfl|rfl|rfl|rfl <;> first|rfl|exact hd7164.oneCell|exact hd7166.oneCell) (by repeat (constructor)) bx7092 oT s7152 fun w7158 s7159 m7160 k7161 bx7162=>(?_))
 have hl7116:=hl7116.mv m7160
 have hl7132:=hl7132.mv m7160
 have hd7147:=hd7147.mv m7160
 have hd7149:=hd7149.mv m7160
 have hd7164:=hd7164.mv m7160
 have hd7166:=hd7166.mv m7160
 have bx7145:=bx7145.keep k7161 (BH (Ne.symm ne7140))
 refine AA (AD (vI ((AV kC (1:Int)).2.1)) rfl (AA (AD (vI ((AV kC (1:Int)).2.2)) rfl (AF (AC (?_))))))
 refine AG (?_)
 refine AB kR (AA (BN (vs:=[vI kA.epoch,vI kA.threshold,vI kA.wait,d7163,d7165]) U28_ rfl BL rfl bx7162 rfl (AA (AE (vI ((AV kC (1:Int)).2.1)) rfl (AA (AE (x7115) rfl (AA (BB (vs:=[vA #[vI kA.epoch,vI kA.threshold,vI kA.wait,d7163,d7165],vI ((AV kC (1:Int)).2.1),x7115]) NM (TG (O:=(b7133 :: (b7081 :: []))++O) [vI kA.epoch,vI kA.threshold,vI kA.wait,d7163,d7165] kA ((AV kC (1:Int)).2.1) x7115 kL w7158 ⟨_,_,rfl,hd7164,hd7166⟩ hl7116 s7159.lt) rfl s7159 fun v7167 w7168 s7169 m7170 k7171 r7172=>(?_)))))))))
 obtain ⟨x7173,rfl,hl7174⟩:=r7172
 have:=hl7174.len_le
 have hl7116:=hl7116.mv m7170
 have hl7132:=hl7132.mv m7170
 have hd7147:=hd7147.mv m7170
 have hd7149:=hd7149.mv m7170
 have hd7164:=hd7164.mv m7170
 have hd7166:=hd7166.mv m7170
 have bx7162:=bx7162.keep k7171 (by simp)
 have bx7145:=bx7145.keep k7171 (by simp)
 refine AA (AE (vT #[x7173,vI ((BS kA ((AV kC (1:Int)).2.1) kL).2)]) rfl (AA (AN (x7173) rfl rfl (AA (AN (vI ((BS kA ((AV kC (1:Int)).2.1) kL).2)) rfl rfl (AA (AD (x7173) rfl (AA (AD (vI ((BS kA ((AV kC (1:Int)).2.1) kL).2)) rfl (AF (AC (?_))))))))))))
 refine AG (?_)
 refine AB kR (AA (BN (vs:=[vI kA.epoch,vI kA.threshold,vI kA.wait,d7163,d7165]) U28_ rfl BL rfl bx7162 rfl (AA (AE (vI ((AV kC (1:Int)).2.1)) rfl (AA (BB (vs:=[vA #[vI kA.epoch,vI kA.threshold,vI kA.wait,d7163,d7165],vI ((AV kC (1:Int)).2.1),vI 3]) PZ (OK (O:=(b7133 :: (b7081 :: []))++O) [vI kA.epoch,vI kA.threshold,vI kA.wait,d7163,d7165] kA ((AV kC (1:Int)).2.1) (3:Int) w7168 ⟨_,_,rfl,hd7164,hd7166⟩ s7169.lt) rfl s7169 fun v7175 w7176 s7177 m7178 k7179 r7180=>(?_)))))))
 obtain ⟨cs7181,rfl,hs7182⟩:=r7180
 have hs7182:Enc.circle.rd w7176 ((b7133 :: (b7081 :: []))++O) cs7181 ND:=hs7182
 have hl7116:=hl7116.mv m7178
 have hl7132:=hl7132.mv m7178
 have hd7147:=hd7147.mv m7178
 have hd7149:=hd7149.mv m7178
 have bx7162:=bx7162.keep k7179 (by simp)
 have bx7145:=bx7145.keep k7179 (by simp)
 refine AA (AE (vT #[vA cs7181.toArray,vI ((BO kA ((AV kC (1:Int)).2.1) (BA kA (3:Int))).2)]) rfl (AA (AN (vA cs7181.toArray) rfl rfl (AA (AN (vI ((BO kA ((AV kC (1:Int)).2.1) (BA kA (3:Int))).2)) rfl rfl (?_))))))
 obtain ⟨d7188,d7190,rfl,hd7189,hd7191⟩:=hs7182
 have:=hd7189.len_le
 have:=hd7191.len_le
 refine BY (BC (vs:=[vI ND.epoch,vI ND.threshold,vI ND.wait,d7188,d7190]) (.agg #[vI ND.epoch,vI ND.threshold,vI ND.wait,d7188,d7190]) rfl rfl rfl BL (fun u hu=>by simp only [List.mem_cons,List.not_mem_nil,or_false] at hu;rcases hu with rfl|rfl|rfl|rfl|rfl <;> first|rfl|exact hd7189.oneCell|exact hd7191.oneCell) (by repeat (constructor)) bx7162 oT s7177 fun w7183 s7184 m7185 k7186 bx7187=>(?_))
 have hl7116:=hl7116.mv m7185
 have hl7132:=hl7132.mv m7185
 have hd7147:=hd7147.mv m7185
 have hd7149:=hd7149.mv m7185
 have hd7189:=hd7189.mv m7185
 have hd7191:=hd7191.mv m7185
 have bx7145:=bx7145.keep k7186 (BH (Ne.symm ne7140))
 refine AA (AD (vI ((BO kA ((AV kC (1:Int)).2.1) (BA kA (3:Int))).2)) rfl (AF (AC (?_))))
 refine AG (?_)
 refine AB kR (AA (BN (vs:=[vI ND.epoch,vI ND.threshold,vI ND.wait,d7188,d7190]) U28_ rfl BL rfl bx7187 rfl (AA (AE (vI ((AV kC (1:Int)).2.1)) rfl (AA (BB (vs:=[vA #[vI ND.epoch,vI ND.threshold,vI ND.wait,d7188,d7190],vI ((AV kC (1:Int)).2.1),vI 8]) PZ (OK (O:=(b7133 :: (b7081 :: []))++O) [vI ND.epoch,vI ND.threshold,vI ND.wait,d7188,d7190] ND ((AV kC (1:Int)).2.1) (8:Int) w7183 ⟨_,_,rfl,hd7189,hd7191⟩ s7184.lt) rfl s7184 fun v7192 w7193 s7194 m7195 k7196 r7197=>(?_)))))))
 obtain ⟨cs7198,rfl,hs7199⟩:=r7197
 have hs7199:Enc.circle.rd w7193 ((b7133 :: (b7081 :: []))++O) cs7198 NE:=hs7199
 have hl7116:=hl7116.mv m7195
 have hl7132:=hl7132.mv m7195
 have hd7147:=hd7147.mv m7195
 have hd7149:=hd7149.mv m7195
 have bx7187:=bx7187.keep k7196 (by simp)
 have bx7145:=bx7145.keep k7196 (by simp)
 refine AA (AE (vT #[vA cs7198.toArray,vI ((BO ND ((AV kC (1:Int)).2.1) (BA ND (8:Int))).2)]) rfl (AA (AN (vA cs7198.toArray) rfl rfl (AA (AN (vI ((BO ND ((AV kC (1:Int)).2.1) (BA ND (8:Int))).2)) rfl rfl (?_))))))
 obtain ⟨d7205,d7207,rfl,hd7206,hd7208⟩:=hs7199
 have:=hd7206.len_le
 have:=hd7208.len_le
 refine BY (BC (vs:=[vI NE.epoch,vI NE.threshold,vI NE.wait,d7205,d7207]) (.agg #[vI NE.epoch,vI NE.threshold,vI NE.wait,d7205,d7207]) rfl rfl rfl BL (fun u hu=>by simp only [List.mem_cons,List.not_mem_nil,or_false] at hu;rcases hu with rfl|rfl|rfl|rfl|rfl <;> first|rfl|exact hd7206.oneCell|exact hd7208.oneCell) (by repeat (constructor)) bx7187 oT s7194 fun w7200 s7201 m7202 k7203 bx7204=>(?_))
 have hl7116:=hl7116.mv m7202
 have hl7132:=hl7132.mv m7202
 have hd7147:=hd7147.mv m7202
 have hd7149:=hd7149.mv m7202
 have hd7206:=hd7206.mv m7202
 have hd7208:=hd7208.mv m7202
 have bx7145:=bx7145.keep k7203 (BH (Ne.symm ne7140))
 refine AA (AD (vI ((BO ND ((AV kC (1:Int)).2.1) (BA ND (8:Int))).2)) rfl (AF (AC (?_))))
 refine AG (?_)
 refine AB kR (AA (BN (vs:=[vI NE.epoch,vI NE.threshold,vI NE.wait,d7205,d7207]) U28_ rfl BL rfl bx7204 rfl (AA (AE (vI ((AV kC (1:Int)).2.1)) rfl (AA (BB (vs:=[vA #[vI NE.epoch,vI NE.threshold,vI NE.wait,d7205,d7207],vI ((AV kC (1:Int)).2.1),vI 1]) TX (SQ (O:=(b7133 :: (b7081 :: []))++O) [vI NE.epoch,vI NE.threshold,vI NE.wait,d7205,d7207] NE ((AV kC (1:Int)).2.1) (1:Int) w7200 ⟨_,_,rfl,hd7206,hd7208⟩ s7201.lt) rfl s7201 fun v7209 w7210 s7211 m7212 k7213 r7214=>(?_)))))))
 obtain ⟨cs7215,rfl,hs7216⟩:=r7214
 have hs7216:Enc.circle.rd w7210 ((b7133 :: (b7081 :: []))++O) cs7215 CZ:=hs7216
 have hl7116:=hl7116.mv m7212
 have hl7132:=hl7132.mv m7212
 have hd7147:=hd7147.mv m7212
 have hd7149:=hd7149.mv m7212
 have bx7204:=bx7204.keep k7213 (by simp)
 have bx7145:=bx7145.keep k7213 (by simp)
 refine AA (AE (vT #[vA cs7215.toArray,vI ((BO NE ((AV kC (1:Int)).2.1) (AY NE (1:Int))).2)]) rfl (AA (AN (vA cs7215.toArray) rfl rfl (AA (AN (vI ((BO NE ((AV kC (1:Int)).2.1) (AY NE (1:Int))).2)) rfl rfl (?_))))))
 obtain ⟨d7222,d7224,rfl,hd7223,hd7225⟩:=hs7216
 have:=hd7223.len_le
 have:=hd7225.len_le
 refine BY (BC (vs:=[vI CZ.epoch,vI CZ.threshold,vI CZ.wait,d7222,d7224]) (.agg #[vI CZ.epoch,vI CZ.threshold,vI CZ.wait,d7222,d7224]) rfl rfl rfl BL (fun u hu=>by simp only [List.mem_cons,List.not_mem_nil,or_false] at hu;rcases hu with rfl|rfl|rfl|rfl|rfl <;> first|rfl|exact hd7223.oneCell|exact hd7225.oneCell) (by repeat (constructor)) bx7204 oT s7211 fun w7217 s7218 m7219 k7220 bx7221=>(?_))
 have hl7116:=hl7116.mv m7219
 have hl7132:=hl7132.mv m7219
 have hd7147:=hd7147.mv m7219
 have hd7149:=hd7149.mv m7219
 have hd7223:=hd7223.mv m7219
 have hd7225:=hd7225.mv m7219
 have bx7145:=bx7145.keep k7220 (BH (Ne.symm ne7140))
 refine AA (AD (vI ((BO NE ((AV kC (1:Int)).2.1) (AY NE (1:Int))).2)) rfl (AF (AC (?_))))
 refine AG (?_)
 refine AG (?_)
 refine AB kR (AA (AE (vI ((KQ ([(3:Int),(5:Int),(8:Int)]) (2:Int) (0:Int)).2)) rfl (AA (CV .i64 ((KQ ([(3:Int),(5:Int),(8:Int)]) (2:Int) (0:Int)).2) (0:Int) rfl rfl (AA (AE (vO (((KQ ([(3:Int),(5:Int),(8:Int)]) (2:Int) (0:Int)).2) != (0:Int))) rfl (?_)))))))
 have hb7226:(((KQ ([(3:Int),(5:Int),(8:Int)]) (2:Int) (0:Int)).2) != (0:Int))=false:=(by decide +kernel)
 rw [hb7226]
 refine BE rfl (AE (vI ((AM kC ([(7:UInt8)]) ([(9:UInt8)])).2)) rfl (BE rfl (CV .i64 ((AM kC ([(7:UInt8)]) ([(9:UInt8)])).2) (0:Int) rfl rfl (AA (BX (vO (((AM kC ([(7:UInt8)]) ([(9:UInt8)])).2) != (0:Int))) rfl rfl (AA (AE (vO (((AM kC ([(7:UInt8)]) ([(9:UInt8)])).2) != (0:Int))) rfl (?_))))))))
 have hb7227:(((AM kC ([(7:UInt8)]) ([(9:UInt8)])).2) != (0:Int))=false:=(by decide +kernel)
 rw [hb7227]
 refine BE rfl (AE (vI ((AK kC kL ([(4:UInt8)])).2.2)) rfl (BE rfl (CV .i64 ((AK kC kL ([(4:UInt8)])).2.2) (0:Int) rfl rfl (AA (BX (vO (((AK kC kL ([(4:UInt8)])).2.2) != (0:Int))) rfl rfl (AA (AE (vO (((AK kC kL ([(4:UInt8)])).2.2) != (0:Int))) rfl (?_))))))))
 have hb7228:(((AK kC kL ([(4:UInt8)])).2.2) != (0:Int))=false:=(by decide +kernel)
 rw [hb7228]
 refine BE rfl (AE (vI ((AV kC (1:Int)).2.2)) rfl (BE rfl (CV .i64 ((AV kC (1:Int)).2.2) (0:Int) rfl rfl (AA (BX (vO (((AV kC (1:Int)).2.2) != (0:Int))) rfl rfl (AA (AE (vO (((AV kC (1:Int)).2.2) != (0:Int))) rfl (?_))))))))
 have hb7229:(((AV kC (1:Int)).2.2) != (0:Int))=false:=(by decide +kernel)
 rw [hb7229]
 refine BE rfl (AE (vI ((BO kA ((AV kC (1:Int)).2.1) (BA kA (3:Int))).2)) rfl (BE rfl (CV .i64 ((BO kA ((AV kC (1:Int)).2.1) (BA kA (3:Int))).2) (0:Int) rfl rfl (AA (BX (vO (((BO kA ((AV kC (1:Int)).2.1) (BA kA (3:Int))).2) != (0:Int))) rfl rfl (AA (AE (vO (((BO kA ((AV kC (1:Int)).2.1) (BA kA (3:Int))).2) != (0:Int))) rfl (?_))))))))
 have hb7230:(((BO kA ((AV kC (1:Int)).2.1) (BA kA (3:Int))).2) != (0:Int))=false:=(by decide +kernel)
 rw [hb7230]
 refine BE rfl (AE (vI ((BO ND ((AV kC (1:Int)).2.1) (BA ND (8:Int))).2)) rfl (BE rfl (CV .i64 ((BO ND ((AV kC (1:Int)).2.1) (BA ND (8:Int))).2) (0:Int) rfl rfl (AA (BX (vO (((BO ND ((AV kC (1:Int)).2.1) (BA ND (8:Int))).2) != (0:Int))) rfl rfl (AA (AE (vO (((BO ND ((AV kC (1:Int)).2.1) (BA ND (8:Int))).2) != (0:Int))) rfl (?_))))))))
 have hb7231:(((BO ND ((AV kC (1:Int)).2.1) (BA ND (8:Int))).2) != (0:Int))=false:=(by decide +kernel)
 rw [hb7231]
 refine BE rfl (AE (vI ((BO NE ((AV kC (1:Int)).2.1) (AY NE (1:Int))).2)) rfl (BE rfl (CV .i64 ((BO NE ((AV kC (1:Int)).2.1) (AY NE (1:Int))).2) (0:Int) rfl rfl (AA (BX (vO (((BO NE ((AV kC (1:Int)).2.1) (AY NE (1:Int))).2) != (0:Int))) rfl rfl (AA (AE (vO (((BO NE ((AV kC (1:Int)).2.1) (AY NE (1:Int))).2) != (0:Int))) rfl (?_))))))))
 have hb7232:(((BO NE ((AV kC (1:Int)).2.1) (AY NE (1:Int))).2) != (0:Int))=false:=(by decide +kernel)
 rw [hb7232]
 refine BE rfl (AE (x7115) rfl (BE rfl (CG U32_ rfl hl7116 (BE rfl (CV .i64 (kL.length:Int) (3:Int) rfl rfl (AA (BX (vO ((kL.length:Int) != (3:Int))) rfl rfl (AA (AE (vO ((kL.length:Int) != (3:Int))) rfl (?_))))))))))
 have hb7233:((kL.length:Int) != (3:Int))=false:=(by decide +kernel)
 rw [hb7233]
 refine BE rfl (AE (x7131) rfl (BE rfl (CG U32_ rfl hl7132 (BE rfl (CV .i64 (((AK kC kL ([(4:UInt8)])).2.1).length:Int) (3:Int) rfl rfl (AA (BX (vO ((((AK kC kL ([(4:UInt8)])).2.1).length:Int) != (3:Int))) rfl rfl (AF (AC (?_))))))))))
 have hb7234:((((AK kC kL ([(4:UInt8)])).2.1).length:Int) != (3:Int))=false:=(by decide +kernel)
 rw [hb7234]
 refine AO false rfl rfl (fun h=>by cases h) (fun _=>?_)
 refine AU (AC (?_))
 refine AG (?_)
 refine cw_draw' 9 _ _ [DF (vA #[vI CZ.epoch,vI CZ.threshold,vI CZ.wait,d7222,d7224]),DF (vI ((AV kC (1:Int)).2.1)),fun (vT:Value) (wT:World)=>BG Enc.share wT ((b7133 :: (b7081 :: []))++O) vT (kL),fun (vT:Value) (wT:World)=>BG Enc.share wT ((b7133 :: (b7081 :: []))++O) vT ((kL.drop 1)),fun (vT:Value) (wT:World)=>∃ (xT0:Value),vT = .tuple #[xT0,vI ((BS CZ ((AV kC (1:Int)).2.1) (kL.drop 1)).2)]∧BG Enc.u8 wT ((b7133 :: (b7081 :: []))++O) xT0 ((BS CZ ((AV kC (1:Int)).2.1) (kL.drop 1)).1),fun (vT:Value) (wT:World)=>∃ (xT0:Value),vT = .tuple #[xT0,vI ((BS CZ ((AV kC (1:Int)).2.1) (kL.drop 1)).2)]∧BG Enc.u8 wT ((b7133 :: (b7081 :: []))++O) xT0 ((BS CZ ((AV kC (1:Int)).2.1) (kL.drop 1)).1),fun (vT:Value) (wT:World)=>BG Enc.u8 wT ((b7133 :: (b7081 :: []))++O) vT ((BS CZ ((AV kC (1:Int)).2.1) (kL.drop 1)).1),DF (vI ((BS CZ ((AV kC (1:Int)).2.1) (kL.drop 1)).2)),fun (vT:Value) (wT:World)=>BG Enc.u8 wT ((b7133 :: (b7081 :: []))++O) vT ((BS CZ ((AV kC (1:Int)).2.1) (kL.drop 1)).1)] kR kR kR kR rfl rfl ⟨kI,kI,fun _ _ _ h k=>h.mv (Mv.of_keep k),fun _ _ _ h k=>h.mv (Mv.of_keep k),fun _ _ _ ⟨y0,e,h0⟩ k=>⟨y0,e,h0.mv (Mv.of_keep k)⟩,fun _ _ _ ⟨y0,e,h0⟩ k=>⟨y0,e,h0.mv (Mv.of_keep k)⟩,fun _ _ _ h k=>h.mv (Mv.of_keep k),kI,fun _ _ _ h k=>h.mv (Mv.of_keep k),trivial⟩ ⟨?_,?_,?_,?_,?_,?_,?_,?_,?_,trivial⟩ ?_
 ·intro F1 w1 k1 hf hd
  have k0:=(Keep.drew [] w7217).trans k1
  have bx7221:=bx7221.keep k0 (by simp)
  obtain ⟨F2,rfl⟩:=AL (F:=F1) [(1,vP (some ⟨b7081,0,none⟩))] ⟨hf 1 kR,trivial⟩
  exact AH rfl ((BN (vs:=[vI CZ.epoch,vI CZ.threshold,vI CZ.wait,d7222,d7224]) U28_ rfl BL rfl bx7221 rfl (⟨(Keep.refl _ _),rfl⟩)))
 ·intro F1 w1 k1 hf hd
  obtain ⟨F2,rfl⟩:=AL (F:=F1) [(8,vI ((AV kC (1:Int)).2.1))] ⟨hf 8 kR,trivial⟩
  exact AH rfl ((AE (vI ((AV kC (1:Int)).2.1)) rfl (⟨(Keep.refl _ _),rfl⟩)))
 ·intro F1 w1 k1 hf hd
  have k0:=(Keep.drew [] w7217).trans k1
  have m1:Mv (b7133 :: (b7081 :: [])) w7217 (b7133 :: (b7081 :: [])) w1:=Mv.of_keep k0
  have hl7116:=hl7116.mv m1
  obtain ⟨F2,rfl⟩:=AL (F:=F1) [(3,x7115)] ⟨hf 3 kR,trivial⟩
  exact AH rfl ((AE (x7115) rfl (⟨(Keep.refl _ _),hl7116⟩)))
 ·intro F1 w1 k1 hf hd
  obtain ⟨v7235,e7237,hl7236⟩:∃ v,F1 123=v∧BG Enc.share w1 ((b7133 :: (b7081 :: []))++O) v (kL):=⟨_,rfl,hd 2 123 kR⟩
  have:=hl7236.len_le
  obtain ⟨F2,rfl⟩:=AL (F:=F1) [(123,v7235)] ⟨e7237,trivial⟩
  refine AH rfl ((NJ U32_ DM 1 kL.length rfl (.inr ⟨.const (vI 1), .i64,(1:Int),rfl,rfl,rfl⟩) (.inl ⟨rfl,rfl⟩) (by decide +kernel) (by decide +kernel) hl7236 fun v7238 hl7239=>(?_)))
  rw [List.take_length] at hl7239
  exact ⟨(Keep.refl _ _),hl7239⟩
 ·intro F1 w1 k1 hf hd
  have k0:=(Keep.drew [] w7217).trans k1
  have s1:=s7218.call k0
  have m1:Mv (b7133 :: (b7081 :: [])) w7217 (b7133 :: (b7081 :: [])) w1:=Mv.of_keep k0
  have hd7223:=hd7223.mv m1
  have hd7225:=hd7225.mv m1
  obtain ⟨v7240,e7242,hl7241⟩:∃ v,F1 124=v∧BG Enc.share w1 ((b7133 :: (b7081 :: []))++O) v ((kL.drop 1)):=⟨_,rfl,hd 3 124 kR⟩
  have:=hl7241.len_le
  obtain ⟨F2,rfl⟩:=AL (F:=F1) [(121,vA #[vI CZ.epoch,vI CZ.threshold,vI CZ.wait,d7222,d7224]),(122,vI ((AV kC (1:Int)).2.1)),(124,v7240)] ⟨hd 0 121 kR,hd 1 122 kR,e7242,trivial⟩
  refine AH rfl ((BB (vs:=[vA #[vI CZ.epoch,vI CZ.threshold,vI CZ.wait,d7222,d7224],vI ((AV kC (1:Int)).2.1),v7240]) NM (TG (O:=(b7133 :: (b7081 :: []))++O) [vI CZ.epoch,vI CZ.threshold,vI CZ.wait,d7222,d7224] CZ ((AV kC (1:Int)).2.1) v7240 (kL.drop 1) w1 ⟨_,_,rfl,hd7223,hd7225⟩ hl7241 s1.lt) rfl s1 fun v7243 w7244 s7245 m7246 k7247 r7248=>(?_)))
  obtain ⟨x7249,rfl,hl7250⟩:=r7248
  have:=hl7250.len_le
  exact ⟨k7247,⟨x7249,rfl,hl7250⟩⟩
 ·intro F1 w1 k1 hf hd
  obtain ⟨x7251,e7253,hl7252⟩:(fun (vT:Value) (wT:World)=>∃ (xT0:Value),vT = .tuple #[xT0,vI ((BS CZ ((AV kC (1:Int)).2.1) (kL.drop 1)).2)]∧BG Enc.u8 wT ((b7133 :: (b7081 :: []))++O) xT0 ((BS CZ ((AV kC (1:Int)).2.1) (kL.drop 1)).1)) (F1 125) w1:=hd 4 125 kR
  have:=hl7252.len_le
  obtain ⟨F2,rfl⟩:=AL (F:=F1) [(125,vT #[x7251,vI ((BS CZ ((AV kC (1:Int)).2.1) (kL.drop 1)).2)])] ⟨e7253,trivial⟩
  exact AH rfl ((AE (vT #[x7251,vI ((BS CZ ((AV kC (1:Int)).2.1) (kL.drop 1)).2)]) rfl (⟨(Keep.refl _ _),⟨x7251,rfl,hl7252⟩⟩)))
 ·intro F1 w1 k1 hf hd
  obtain ⟨x7254,e7256,hl7255⟩:(fun (vT:Value) (wT:World)=>∃ (xT0:Value),vT = .tuple #[xT0,vI ((BS CZ ((AV kC (1:Int)).2.1) (kL.drop 1)).2)]∧BG Enc.u8 wT ((b7133 :: (b7081 :: []))++O) xT0 ((BS CZ ((AV kC (1:Int)).2.1) (kL.drop 1)).1)) (F1 120) w1:=hd 5 120 kR
  have:=hl7255.len_le
  obtain ⟨F2,rfl⟩:=AL (F:=F1) [(120,vT #[x7254,vI ((BS CZ ((AV kC (1:Int)).2.1) (kL.drop 1)).2)])] ⟨e7256,trivial⟩
  exact AH rfl ((AN (x7254) rfl rfl (⟨(Keep.refl _ _),hl7255⟩)))
 ·intro F1 w1 k1 hf hd
  obtain ⟨x7257,e7259,hl7258⟩:(fun (vT:Value) (wT:World)=>∃ (xT0:Value),vT = .tuple #[xT0,vI ((BS CZ ((AV kC (1:Int)).2.1) (kL.drop 1)).2)]∧BG Enc.u8 wT ((b7133 :: (b7081 :: []))++O) xT0 ((BS CZ ((AV kC (1:Int)).2.1) (kL.drop 1)).1)) (F1 120) w1:=hd 5 120 kR
  have:=hl7258.len_le
  obtain ⟨F2,rfl⟩:=AL (F:=F1) [(120,vT #[x7257,vI ((BS CZ ((AV kC (1:Int)).2.1) (kL.drop 1)).2)])] ⟨e7259,trivial⟩
  exact AH rfl ((AN (vI ((BS CZ ((AV kC (1:Int)).2.1) (kL.drop 1)).2)) rfl rfl (⟨(Keep.refl _ _),rfl⟩)))
 ·intro F1 w1 k1 hf hd
  obtain ⟨v7260,e7262,hl7261⟩:∃ v,F1 126=v∧BG Enc.u8 w1 ((b7133 :: (b7081 :: []))++O) v ((BS CZ ((AV kC (1:Int)).2.1) (kL.drop 1)).1):=⟨_,rfl,hd 6 126 kR⟩
  have:=hl7261.len_le
  obtain ⟨F2,rfl⟩:=AL (F:=F1) [(126,v7260)] ⟨e7262,trivial⟩
  exact AH rfl ((AD (v7260) rfl (⟨(Keep.refl _ _),hl7261⟩)))
 intro F7264 w7265 k7263 hT7266 hF7267
 have s7268:=s7218.call k7263
 have m7269:Mv (b7133 :: (b7081 :: [])) w7217 (b7133 :: (b7081 :: [])) w7265:=Mv.of_keep k7263
 have hl7116:=hl7116.mv m7269
 have hl7132:=hl7132.mv m7269
 have hd7147:=hd7147.mv m7269
 have hd7149:=hd7149.mv m7269
 have hd7223:=hd7223.mv m7269
 have hd7225:=hd7225.mv m7269
 have bx7221:=bx7221.keep k7263 (by simp)
 have bx7145:=bx7145.keep k7263 (by simp)
 obtain ⟨v7272,e7274,hl7273⟩:∃ v,F7264 15=v∧BG Enc.u8 w7265 ((b7133 :: (b7081 :: []))++O) v ((BS CZ ((AV kC (1:Int)).2.1) (kL.drop 1)).1):=⟨_,rfl,hT7266 8 15 kR (by decide)⟩
 have:=hl7273.len_le
 obtain ⟨F2,rfl⟩:=AL (F:=F7264) [(1,vP (some ⟨b7081,0,none⟩)),(3,x7115),(5,vP (some ⟨b7133,0,none⟩)),(6,x7131),(8,vI ((AV kC (1:Int)).2.1)),(11,vI ((BS kA ((AV kC (1:Int)).2.1) kL).2)),(252,undef),(15,v7272),(127,vI ((BS CZ ((AV kC (1:Int)).2.1) (kL.drop 1)).2))] ⟨hF7267 1 kR,hF7267 3 kR,hF7267 5 kR,hF7267 6 kR,hF7267 8 kR,hF7267 11 kR,hF7267 252 kR,e7274,hT7266 7 127 kR (by decide),trivial⟩
 clear hT7266 hF7267
 refine AA (AD (vI ((BS CZ ((AV kC (1:Int)).2.1) (kL.drop 1)).2)) rfl (AF (AC (?_))))
 refine AG (?_)
 refine cw_draw' 9 _ _ [DF (vA #[vI CZ.epoch,vI CZ.threshold,vI CZ.wait,d7222,d7224]),DF (vI ((AV kC (1:Int)).2.1)),fun (vT:Value) (wT:World)=>BG Enc.share wT ((b7133 :: (b7081 :: []))++O) vT ((AK kC kL ([(4:UInt8)])).2.1),fun (vT:Value) (wT:World)=>BG Enc.share wT ((b7133 :: (b7081 :: []))++O) vT ((((AK kC kL ([(4:UInt8)])).2.1).drop 1)),fun (vT:Value) (wT:World)=>∃ (xT0:Value),vT = .tuple #[xT0,vI ((BS CZ ((AV kC (1:Int)).2.1) (((AK kC kL ([(4:UInt8)])).2.1).drop 1)).2)]∧BG Enc.u8 wT ((b7133 :: (b7081 :: []))++O) xT0 ((BS CZ ((AV kC (1:Int)).2.1) (((AK kC kL ([(4:UInt8)])).2.1).drop 1)).1),fun (vT:Value) (wT:World)=>∃ (xT0:Value),vT = .tuple #[xT0,vI ((BS CZ ((AV kC (1:Int)).2.1) (((AK kC kL ([(4:UInt8)])).2.1).drop 1)).2)]∧BG Enc.u8 wT ((b7133 :: (b7081 :: []))++O) xT0 ((BS CZ ((AV kC (1:Int)).2.1) (((AK kC kL ([(4:UInt8)])).2.1).drop 1)).1),fun (vT:Value) (wT:World)=>BG Enc.u8 wT ((b7133 :: (b7081 :: []))++O) vT ((BS CZ ((AV kC (1:Int)).2.1) (((AK kC kL ([(4:UInt8)])).2.1).drop 1)).1),DF (vI ((BS CZ ((AV kC (1:Int)).2.1) (((AK kC kL ([(4:UInt8)])).2.1).drop 1)).2)),fun (vT:Value) (wT:World)=>BG Enc.u8 wT ((b7133 :: (b7081 :: []))++O) vT ((BS CZ ((AV kC (1:Int)).2.1) (((AK kC kL ([(4:UInt8)])).2.1).drop 1)).1)] kR kR kR kR rfl rfl ⟨kI,kI,fun _ _ _ h k=>h.mv (Mv.of_keep k),fun _ _ _ h k=>h.mv (Mv.of_keep k),fun _ _ _ ⟨y0,e,h0⟩ k=>⟨y0,e,h0.mv (Mv.of_keep k)⟩,fun _ _ _ ⟨y0,e,h0⟩ k=>⟨y0,e,h0.mv (Mv.of_keep k)⟩,fun _ _ _ h k=>h.mv (Mv.of_keep k),kI,fun _ _ _ h k=>h.mv (Mv.of_keep k),trivial⟩ ⟨?_,?_,?_,?_,?_,?_,?_,?_,?_,trivial⟩ ?_
 ·intro F1 w1 k1 hf hd
  have k0:=(Keep.drew [] w7265).trans k1
  have bx7221:=bx7221.keep k0 (by simp)
  obtain ⟨F2,rfl⟩:=AL (F:=F1) [(1,vP (some ⟨b7081,0,none⟩))] ⟨hf 1 kR,trivial⟩
  exact AH rfl ((BN (vs:=[vI CZ.epoch,vI CZ.threshold,vI CZ.wait,d7222,d7224]) U28_ rfl BL rfl bx7221 rfl (⟨(Keep.refl _ _),rfl⟩)))
 ·intro F1 w1 k1 hf hd
  obtain ⟨F2,rfl⟩:=AL (F:=F1) [(8,vI ((AV kC (1:Int)).2.1))] ⟨hf 8 kR,trivial⟩
  exact AH rfl ((AE (vI ((AV kC (1:Int)).2.1)) rfl (⟨(Keep.refl _ _),rfl⟩)))
 ·intro F1 w1 k1 hf hd
  have k0:=(Keep.drew [] w7265).trans k1
  have m1:Mv (b7133 :: (b7081 :: [])) w7265 (b7133 :: (b7081 :: [])) w1:=Mv.of_keep k0
  have hl7132:=hl7132.mv m1
  obtain ⟨F2,rfl⟩:=AL (F:=F1) [(6,x7131)] ⟨hf 6 kR,trivial⟩
  exact AH rfl ((AE (x7131) rfl (⟨(Keep.refl _ _),hl7132⟩)))
 ·intro F1 w1 k1 hf hd
  obtain ⟨v7275,e7277,hl7276⟩:∃ v,F1 131=v∧BG Enc.share w1 ((b7133 :: (b7081 :: []))++O) v ((AK kC kL ([(4:UInt8)])).2.1):=⟨_,rfl,hd 2 131 kR⟩
  have:=hl7276.len_le
  obtain ⟨F2,rfl⟩:=AL (F:=F1) [(131,v7275)] ⟨e7277,trivial⟩
  refine AH rfl ((NJ U32_ DM 1 (((AK kC kL ([(4:UInt8)])).2.1).length) rfl (.inr ⟨.const (vI 1), .i64,(1:Int),rfl,rfl,rfl⟩) (.inl ⟨rfl,rfl⟩) (by decide +kernel) (by decide +kernel) hl7276 fun v7278 hl7279=>(?_)))
  rw [List.take_length] at hl7279
  exact ⟨(Keep.refl _ _),hl7279⟩
 ·intro F1 w1 k1 hf hd
  have k0:=(Keep.drew [] w7265).trans k1
  have s1:=s7268.call k0
  have m1:Mv (b7133 :: (b7081 :: [])) w7265 (b7133 :: (b7081 :: [])) w1:=Mv.of_keep k0
  have hd7223:=hd7223.mv m1
  have hd7225:=hd7225.mv m1
  obtain ⟨v7280,e7282,hl7281⟩:∃ v,F1 132=v∧BG Enc.share w1 ((b7133 :: (b7081 :: []))++O) v ((((AK kC kL ([(4:UInt8)])).2.1).drop 1)):=⟨_,rfl,hd 3 132 kR⟩
  have:=hl7281.len_le
  obtain ⟨F2,rfl⟩:=AL (F:=F1) [(129,vA #[vI CZ.epoch,vI CZ.threshold,vI CZ.wait,d7222,d7224]),(130,vI ((AV kC (1:Int)).2.1)),(132,v7280)] ⟨hd 0 129 kR,hd 1 130 kR,e7282,trivial⟩
  refine AH rfl ((BB (vs:=[vA #[vI CZ.epoch,vI CZ.threshold,vI CZ.wait,d7222,d7224],vI ((AV kC (1:Int)).2.1),v7280]) NM (TG (O:=(b7133 :: (b7081 :: []))++O) [vI CZ.epoch,vI CZ.threshold,vI CZ.wait,d7222,d7224] CZ ((AV kC (1:Int)).2.1) v7280 (((AK kC kL ([(4:UInt8)])).2.1).drop 1) w1 ⟨_,_,rfl,hd7223,hd7225⟩ hl7281 s1.lt) rfl s1 fun v7283 w7284 s7285 m7286 k7287 r7288=>(?_)))
  obtain ⟨x7289,rfl,hl7290⟩:=r7288
  have:=hl7290.len_le
  exact ⟨k7287,⟨x7289,rfl,hl7290⟩⟩
 ·intro F1 w1 k1 hf hd
  obtain ⟨x7291,e7293,hl7292⟩:(fun (vT:Value) (wT:World)=>∃ (xT0:Value),vT = .tuple #[xT0,vI ((BS CZ ((AV kC (1:Int)).2.1) (((AK kC kL ([(4:UInt8)])).2.1).drop 1)).2)]∧BG Enc.u8 wT ((b7133 :: (b7081 :: []))++O) xT0 ((BS CZ ((AV kC (1:Int)).2.1) (((AK kC kL ([(4:UInt8)])).2.1).drop 1)).1)) (F1 133) w1:=hd 4 133 kR
  have:=hl7292.len_le
  obtain ⟨F2,rfl⟩:=AL (F:=F1) [(133,vT #[x7291,vI ((BS CZ ((AV kC (1:Int)).2.1) (((AK kC kL ([(4:UInt8)])).2.1).drop 1)).2)])] ⟨e7293,trivial⟩
  exact AH rfl ((AE (vT #[x7291,vI ((BS CZ ((AV kC (1:Int)).2.1) (((AK kC kL ([(4:UInt8)])).2.1).drop 1)).2)]) rfl (⟨(Keep.refl _ _),⟨x7291,rfl,hl7292⟩⟩)))
 ·intro F1 w1 k1 hf hd
  obtain ⟨x7294,e7296,hl7295⟩:(fun (vT:Value) (wT:World)=>∃ (xT0:Value),vT = .tuple #[xT0,vI ((BS CZ ((AV kC (1:Int)).2.1) (((AK kC kL ([(4:UInt8)])).2.1).drop 1)).2)]∧BG Enc.u8 wT ((b7133 :: (b7081 :: []))++O) xT0 ((BS CZ ((AV kC (1:Int)).2.1) (((AK kC kL ([(4:UInt8)])).2.1).drop 1)).1)) (F1 128) w1:=hd 5 128 kR
  have:=hl7295.len_le
  obtain ⟨F2,rfl⟩:=AL (F:=F1) [(128,vT #[x7294,vI ((BS CZ ((AV kC (1:Int)).2.1) (((AK kC kL ([(4:UInt8)])).2.1).drop 1)).2)])] ⟨e7296,trivial⟩
  exact AH rfl ((AN (x7294) rfl rfl (⟨(Keep.refl _ _),hl7295⟩)))
 ·intro F1 w1 k1 hf hd
  obtain ⟨x7297,e7299,hl7298⟩:(fun (vT:Value) (wT:World)=>∃ (xT0:Value),vT = .tuple #[xT0,vI ((BS CZ ((AV kC (1:Int)).2.1) (((AK kC kL ([(4:UInt8)])).2.1).drop 1)).2)]∧BG Enc.u8 wT ((b7133 :: (b7081 :: []))++O) xT0 ((BS CZ ((AV kC (1:Int)).2.1) (((AK kC kL ([(4:UInt8)])).2.1).drop 1)).1)) (F1 128) w1:=hd 5 128 kR
  have:=hl7298.len_le
  obtain ⟨F2,rfl⟩:=AL (F:=F1) [(128,vT #[x7297,vI ((BS CZ ((AV kC (1:Int)).2.1) (((AK kC kL ([(4:UInt8)])).2.1).drop 1)).2)])] ⟨e7299,trivial⟩
  exact AH rfl ((AN (vI ((BS CZ ((AV kC (1:Int)).2.1) (((AK kC kL ([(4:UInt8)])).2.1).drop 1)).2)) rfl rfl (⟨(Keep.refl _ _),rfl⟩)))
 ·intro F1 w1 k1 hf hd
  obtain ⟨v7300,e7302,hl7301⟩:∃ v,F1 134=v∧BG Enc.u8 w1 ((b7133 :: (b7081 :: []))++O) v ((BS CZ ((AV kC (1:Int)).2.1) (((AK kC kL ([(4:UInt8)])).2.1).drop 1)).1):=⟨_,rfl,hd 6 134 kR⟩
  have:=hl7301.len_le
  obtain ⟨F2,rfl⟩:=AL (F:=F1) [(134,v7300)] ⟨e7302,trivial⟩
  exact AH rfl ((AD (v7300) rfl (⟨(Keep.refl _ _),hl7301⟩)))
 intro F7304 w7305 k7303 hT7306 hF7307
 have s7308:=s7268.call k7303
 have m7309:Mv (b7133 :: (b7081 :: [])) w7265 (b7133 :: (b7081 :: [])) w7305:=Mv.of_keep k7303
 have hl7116:=hl7116.mv m7309
 have hl7132:=hl7132.mv m7309
 have hl7273:=hl7273.mv m7309
 have hd7223:=hd7223.mv m7309
 have hd7225:=hd7225.mv m7309
 have bx7221:=bx7221.keep k7303 (by simp)
 have hd7147:=hd7147.mv m7309
 have hd7149:=hd7149.mv m7309
 have bx7145:=bx7145.keep k7303 (by simp)
 obtain ⟨F2,rfl⟩:=AL (F:=F7304) [(1,vP (some ⟨b7081,0,none⟩)),(3,x7115),(5,vP (some ⟨b7133,0,none⟩)),(6,x7131),(11,vI ((BS kA ((AV kC (1:Int)).2.1) kL).2)),(15,v7272),(16,vI ((BS CZ ((AV kC (1:Int)).2.1) (kL.drop 1)).2)),(252,undef),(135,vI ((BS CZ ((AV kC (1:Int)).2.1) (((AK kC kL ([(4:UInt8)])).2.1).drop 1)).2))] ⟨hF7307 1 kR,hF7307 3 kR,hF7307 5 kR,hF7307 6 kR,hF7307 11 kR,hF7307 15 kR,hF7307 16 kR,hF7307 252 kR,hT7306 7 135 kR (by decide),trivial⟩
 clear hT7306 hF7307
 refine AA (AD (vI ((BS CZ ((AV kC (1:Int)).2.1) (((AK kC kL ([(4:UInt8)])).2.1).drop 1)).2)) rfl (AF (AC (?_))))
 refine UO (fun FI wI=>∃ (bnc146_19:Nat) (vnc146_19_3:Value) (vnc146_19_4:Value) (vrc146_20:Value) (B:List Nat),True∧(∃ F1,FI=FT F1 [(1,vP (some ⟨b7081,0,none⟩)),(3,x7115),(5,vP (some ⟨b7133,0,none⟩)),(6,x7131),(11,vI ((BS kA ((AV kC (1:Int)).2.1) kL).2)),(15,v7272),(16,vI ((BS CZ ((AV kC (1:Int)).2.1) (kL.drop 1)).2)),(18,vI ((BS CZ ((AV kC (1:Int)).2.1) (((AK kC kL ([(4:UInt8)])).2.1).drop 1)).2)),(19,vP (some ⟨bnc146_19,0,none⟩)),(20,vrc146_20),(21,vI kE),(252,undef)])∧St w O wI B∧BG Enc.share wI (B++O) vrc146_20 (kW)∧BG Enc.share wI (B++O) (x7115) (kL)∧BG Enc.share wI (B++O) (x7131) ((AK kC kL ([(4:UInt8)])).2.1)∧BG Enc.u8 wI (B++O) (v7272) ((BS CZ ((AV kC (1:Int)).2.1) (kL.drop 1)).1)∧BG Enc.int wI (B++O) (d7222) (CZ.guardians)∧BG Enc.recovery wI (B++O) (d7224) (CZ.recs)∧GQ wI b7081 28 [vI CZ.epoch,vI CZ.threshold,vI CZ.wait,d7222,d7224]∧b7081∈B∧BG Enc.int wI (B++O) (d7146) (kX.guardians)∧BG Enc.recovery wI (B++O) (d7148) (kX.recs)∧GQ wI b7133 28 [vI kX.epoch,vI kX.threshold,vI kX.wait,d7146,d7148]∧b7133∈B∧GQ wI bnc146_19 28 [vI kZ.epoch,vI kZ.threshold,vI kZ.wait,vnc146_19_3,vnc146_19_4]∧BG Enc.int wI (B++O) vnc146_19_3 (kZ.guardians)∧BG Enc.recovery wI (B++O) vnc146_19_4 (kZ.recs)∧bnc146_19∈B∧FH b7081 bnc146_19∧FH b7133 bnc146_19) ?_ ?_
 ·refine cw_drawUN 10 [7,8] [[7],[8],[7,8]] (by intro c F d v w hd;simp only [QA,PH];exact qp_end c F d v w hd) _ _ _ [fun _=>DF (vA #[vI CZ.epoch,vI CZ.threshold,vI CZ.wait,d7222,d7224]),fun _=>fun (vT:Value) (_:World)=>BG Enc.share w7305 ((b7133 :: (b7081 :: []))++O) vT (kL),fun _=>fun (vT:Value) (_:World)=>BG Enc.share w7305 ((b7133 :: (b7081 :: []))++O) vT ((kL.take 2)),fun (BT:List Nat) (vT:Value) (wT:World)=>BG Enc.int wT (BT++O) vT ([(4:Int)]),fun (BT:List Nat) (vT:Value) (wT:World)=>∃ (xT0:List Value) (xT1:Value),vT = .tuple #[.agg xT0.toArray,xT1,vI ((AJ CZ (kL.take 2) ([(4:Int)]) (1:Int) ([])).2.2)]∧Enc.circle.rd wT (BT++O) xT0 (kZ)∧BG Enc.share wT (BT++O) xT1 ((AJ CZ (kL.take 2) ([(4:Int)]) (1:Int) ([])).2.1),fun (BT:List Nat) (vT:Value) (wT:World)=>∃ (xT0:List Value) (xT1:Value),vT = .tuple #[.agg xT0.toArray,xT1,vI ((AJ CZ (kL.take 2) ([(4:Int)]) (1:Int) ([])).2.2)]∧Enc.circle.rd wT (BT++O) xT0 (kZ)∧BG Enc.share wT (BT++O) xT1 ((AJ CZ (kL.take 2) ([(4:Int)]) (1:Int) ([])).2.1),fun (BT:List Nat) (vT:Value) (wT:World)=>∃ csT:List Value,vT = .agg csT.toArray∧Enc.circle.rd wT (BT++O) csT (kZ),fun (BT:List Nat) (vT:Value) (wT:World)=>BG Enc.share wT (BT++O) vT ((AJ CZ (kL.take 2) ([(4:Int)]) (1:Int) ([])).2.1),fun _=>DF (vI ((AJ CZ (kL.take 2) ([(4:Int)]) (1:Int) ([])).2.2)),SD w7305 28 [vI 0,vI 0,vI 0,nS,nS]] [⟨0,[],[],[],false,[]⟩,⟨0,[],[],[],false,[]⟩,⟨0,[],[],[],false,[1]⟩,⟨1,[],[],[],false,[]⟩,⟨1,[1],[],[],false,[0,2,3]⟩,⟨1,[1],[],[],false,[4]⟩,⟨1,[1],[],[],false,[5]⟩,⟨1,[1],[],[],false,[5]⟩,⟨0,[1],[],[],false,[5]⟩,⟨2,[],[],[],false,[]⟩] (b7133 :: (b7081 :: [])) kR kR kR kR kR (by decide) rfl rfl rfl ⟨fun _ _ _ _ _ h=>h,fun _ _ _ _ _ h=>h,fun _ _ _ _ _ h=>h,(show ∀ B B2 v w w2,(fun (BT:List Nat) (vT:Value) (wT:World)=>BG Enc.int wT (BT++O) vT ([(4:Int)])) B v w→Mv B w B2 w2→(fun (BT:List Nat) (vT:Value) (wT:World)=>BG Enc.int wT (BT++O) vT ([(4:Int)])) B2 v w2 from fun _ _ _ _ _ h m=>h.mv m),(show ∀ B B2 v w w2,(fun (BT:List Nat) (vT:Value) (wT:World)=>∃ (xT0:List Value) (xT1:Value),vT = .tuple #[.agg xT0.toArray,xT1,vI ((AJ CZ (kL.take 2) ([(4:Int)]) (1:Int) ([])).2.2)]∧Enc.circle.rd wT (BT++O) xT0 (kZ)∧BG Enc.share wT (BT++O) xT1 ((AJ CZ (kL.take 2) ([(4:Int)]) (1:Int) ([])).2.1)) B v w→Mv B w B2 w2→(fun (BT:List Nat) (vT:Value) (wT:World)=>∃ (xT0:List Value) (xT1:Value),vT = .tuple #[.agg xT0.toArray,xT1,vI ((AJ CZ (kL.take 2) ([(4:Int)]) (1:Int) ([])).2.2)]∧Enc.circle.rd wT (BT++O) xT0 (kZ)∧BG Enc.share wT (BT++O) xT1 ((AJ CZ (kL.take 2) ([(4:Int)]) (1:Int) ([])).2.1)) B2 v w2 from fun _ _ _ _ _ ⟨y0,y1,e,h0,h1⟩ m=>⟨y0,y1,e,Enc.mv _ h0 m,h1.mv m⟩),(show ∀ B B2 v w w2,(fun (BT:List Nat) (vT:Value) (wT:World)=>∃ (xT0:List Value) (xT1:Value),vT = .tuple #[.agg xT0.toArray,xT1,vI ((AJ CZ (kL.take 2) ([(4:Int)]) (1:Int) ([])).2.2)]∧Enc.circle.rd wT (BT++O) xT0 (kZ)∧BG Enc.share wT (BT++O) xT1 ((AJ CZ (kL.take 2) ([(4:Int)]) (1:Int) ([])).2.1)) B v w→Mv B w B2 w2→(fun (BT:List Nat) (vT:Value) (wT:World)=>∃ (xT0:List Value) (xT1:Value),vT = .tuple #[.agg xT0.toArray,xT1,vI ((AJ CZ (kL.take 2) ([(4:Int)]) (1:Int) ([])).2.2)]∧Enc.circle.rd wT (BT++O) xT0 (kZ)∧BG Enc.share wT (BT++O) xT1 ((AJ CZ (kL.take 2) ([(4:Int)]) (1:Int) ([])).2.1)) B2 v w2 from fun _ _ _ _ _ ⟨y0,y1,e,h0,h1⟩ m=>⟨y0,y1,e,Enc.mv _ h0 m,h1.mv m⟩),(show ∀ B B2 v w w2,(fun (BT:List Nat) (vT:Value) (wT:World)=>∃ csT:List Value,vT = .agg csT.toArray∧Enc.circle.rd wT (BT++O) csT (kZ)) B v w→Mv B w B2 w2→(fun (BT:List Nat) (vT:Value) (wT:World)=>∃ csT:List Value,vT = .agg csT.toArray∧Enc.circle.rd wT (BT++O) csT (kZ)) B2 v w2 from fun _ _ _ _ _ ⟨a,e,h⟩ m=>⟨a,e,Enc.mv _ h m⟩),(show ∀ B B2 v w w2,(fun (BT:List Nat) (vT:Value) (wT:World)=>BG Enc.share wT (BT++O) vT ((AJ CZ (kL.take 2) ([(4:Int)]) (1:Int) ([])).2.1)) B v w→Mv B w B2 w2→(fun (BT:List Nat) (vT:Value) (wT:World)=>BG Enc.share wT (BT++O) vT ((AJ CZ (kL.take 2) ([(4:Int)]) (1:Int) ([])).2.1)) B2 v w2 from fun _ _ _ _ _ h m=>h.mv m),fun _ _ _ _ _ h=>h,SD.st,trivial⟩ ⟨?_,?_,?_,?_,?_,?_,?_,?_,?_,?_,trivial⟩ ?_ ?_
  ·intro F1 w1 B1_ Bs_ k1 hs_ hl_ hr_ hsep_ hf hd
   have k0:=(Keep.drew [] w7305).trans k1
   have bx7221:=bx7221.keep k0 (by simp)
   obtain ⟨F2,rfl⟩:=AL (F:=F1) [(1,vP (some ⟨b7081,0,none⟩))] ⟨hf 1 kR,trivial⟩
   exact AH rfl ((BN (vs:=[vI CZ.epoch,vI CZ.threshold,vI CZ.wait,d7222,d7224]) U28_ rfl BL rfl bx7221 rfl (⟨[],(Keep.refl _ _),OB,rfl⟩)))
  ·intro F1 w1 B1_ Bs_ k1 hs_ hl_ hr_ hsep_ hf hd
   obtain ⟨F2,rfl⟩:=AL (F:=F1) [(3,x7115)] ⟨hf 3 kR,trivial⟩
   exact AH rfl ((AE (x7115) rfl (⟨[],(Keep.refl _ _),OB,hl7116⟩)))
  ·intro F1 w1 B1_ Bs_ k1 hs_ hl_ hr_ hsep_ hf hd
   obtain ⟨v7312,e7314,hl7313⟩:∃ v,F1 138=v∧BG Enc.share w7305 ((b7133 :: (b7081 :: []))++O) v (kL):=⟨_,rfl,hd 1 138 kR kR⟩
   have:=hl7313.len_le
   obtain ⟨F2,rfl⟩:=AL (F:=F1) [(138,v7312)] ⟨e7314,trivial⟩
   refine AH rfl ((o_sliceRU U32_ DM 0 2 rfl (.inl ⟨rfl,rfl⟩) (.inr ⟨.const (vI 2), .i64,(2:Int),rfl,rfl,rfl⟩) (by decide +kernel) (by decide +kernel) hl7313 fun v7315 hl7316=>(?_)))
   rw [List.drop_zero] at hl7316
   exact ⟨[],(Keep.refl _ _),OB,hl7316⟩
  ·intro F1 w1 B1_ Bs_ k1 hs_ hl_ hr_ hsep_ hf hd
   have k0:=(Keep.drew [] w7305).trans k1
   have s1:=s7308.adoptL k0 hl_
   obtain ⟨F2,rfl⟩:=AL (F:=F1) [] trivial
   refine AH rfl ((IK (E:=Enc.int) (xs:=[.const (vI 4)]) U22_ MW z_3 (by decide) [vI 4] [[vI 4]] [(4:Int)] rfl rfl rfl (Parts.cons rfl rfl (Parts.nil _ _ _)) oT s1 fun v7321 w7317 s7318 m7319 k7320 hl7322=>(?_)))
   have:=hl7322.len_le
   exact ⟨[],k7320,OB,hl7322⟩
  ·intro F1 w1 B1_ Bs_ k1 hs_ hl_ hr_ hsep_ hf hd
   have k0:=(Keep.drew [] w7305).trans k1
   have s1:=s7308.adoptL k0 hl_
   have m1:Mv (b7133 :: (b7081 :: [])) w7305 B1_ w1:=Mv.adoptL k0 hl_
   have hd7223:=hd7223.mv m1
   have hd7225:=hd7225.mv m1
   obtain ⟨v7323,e7325,hl7324⟩:∃ v,F1 139=v∧BG Enc.share w7305 ((b7133 :: (b7081 :: []))++O) v ((kL.take 2)):=⟨_,rfl,hd 2 139 kR kR⟩
   have:=hl7324.len_le
   have hl7324:=hl7324.mv m1
   obtain ⟨v7326,e7328,hl7327⟩:∃ v,F1 140=v∧BG Enc.int w1 ((Bs_ 1)++O) v ([(4:Int)]):=⟨_,rfl,hd 3 140 kR kR⟩
   have:=hl7327.len_le
   have hl7327:=hl7327.mv (Mv.at_ (hr_ 1 kR))
   obtain ⟨F2,rfl⟩:=AL (F:=F1) [(137,vA #[vI CZ.epoch,vI CZ.threshold,vI CZ.wait,d7222,d7224]),(139,v7323),(140,v7326)] ⟨hd 0 137 kR kR,e7325,e7328,trivial⟩
   refine AH rfl ((BB (vs:=[vA #[vI CZ.epoch,vI CZ.threshold,vI CZ.wait,d7222,d7224],v7323,v7326,vI 1,nS]) UL (RE (O:=B1_++O) [vI CZ.epoch,vI CZ.threshold,vI CZ.wait,d7222,d7224] CZ v7323 (kL.take 2) v7326 ([(4:Int)]) (1:Int) (.slice none 0 0) [] w1 ⟨_,_,rfl,hd7223,hd7225⟩ hl7324 hl7327 (BG.nil _ _ _) (by decide +kernel) s1.lt) rfl s1 fun v7329 w7330 s7331 m7332 k7333 r7334=>(?_)))
   obtain ⟨cs7335,x7337,rfl,hs7336,hl7338⟩:=r7334
   have:=hl7338.len_le
   have hs7336:Enc.circle.rd w7330 (B1_++O) cs7335 kZ:=hs7336
   exact ⟨[],k7333,OB,⟨cs7335,x7337,rfl,hs7336,hl7338⟩⟩
  ·intro F1 w1 B1_ Bs_ k1 hs_ hl_ hr_ hsep_ hf hd
   obtain ⟨cs7339,x7341,e7343,hs7340,hl7342⟩:(fun (vT:Value) (wT:World)=>∃ (xT0:List Value) (xT1:Value),vT = .tuple #[.agg xT0.toArray,xT1,vI ((AJ CZ (kL.take 2) ([(4:Int)]) (1:Int) ([])).2.2)]∧Enc.circle.rd wT ((Bs_ 1)++O) xT0 (kZ)∧BG Enc.share wT ((Bs_ 1)++O) xT1 ((AJ CZ (kL.take 2) ([(4:Int)]) (1:Int) ([])).2.1)) (F1 141) w1:=hd 4 141 kR kR
   have:=hl7342.len_le
   have hs7340:Enc.circle.rd w1 (B1_++O) cs7339 (kZ):=Enc.mv Enc.circle (x:=kZ) hs7340 (Mv.at_ (hr_ 1 kR))
   have hl7342:=hl7342.mv (Mv.at_ (hr_ 1 kR))
   obtain ⟨F2,rfl⟩:=AL (F:=F1) [(141,vT #[vA cs7339.toArray,x7341,vI ((AJ CZ (kL.take 2) ([(4:Int)]) (1:Int) ([])).2.2)])] ⟨e7343,trivial⟩
   exact AH rfl ((AE (vT #[vA cs7339.toArray,x7341,vI ((AJ CZ (kL.take 2) ([(4:Int)]) (1:Int) ([])).2.2)]) rfl (⟨[],(Keep.refl _ _),OB,⟨cs7339,x7341,rfl,hs7340,hl7342⟩⟩)))
  ·intro F1 w1 B1_ Bs_ k1 hs_ hl_ hr_ hsep_ hf hd
   obtain ⟨cs7344,x7346,e7348,hs7345,hl7347⟩:(fun (vT:Value) (wT:World)=>∃ (xT0:List Value) (xT1:Value),vT = .tuple #[.agg xT0.toArray,xT1,vI ((AJ CZ (kL.take 2) ([(4:Int)]) (1:Int) ([])).2.2)]∧Enc.circle.rd wT ((Bs_ 1)++O) xT0 (kZ)∧BG Enc.share wT ((Bs_ 1)++O) xT1 ((AJ CZ (kL.take 2) ([(4:Int)]) (1:Int) ([])).2.1)) (F1 136) w1:=hd 5 136 kR kR
   have:=hl7347.len_le
   have hs7345:Enc.circle.rd w1 (B1_++O) cs7344 (kZ):=Enc.mv Enc.circle (x:=kZ) hs7345 (Mv.at_ (hr_ 1 kR))
   obtain ⟨F2,rfl⟩:=AL (F:=F1) [(136,vT #[vA cs7344.toArray,x7346,vI ((AJ CZ (kL.take 2) ([(4:Int)]) (1:Int) ([])).2.2)])] ⟨e7348,trivial⟩
   exact AH rfl ((AN (vA cs7344.toArray) rfl rfl (⟨[],(Keep.refl _ _),OB,⟨cs7344,rfl,hs7345⟩⟩)))
  ·intro F1 w1 B1_ Bs_ k1 hs_ hl_ hr_ hsep_ hf hd
   obtain ⟨cs7349,x7351,e7353,hs7350,hl7352⟩:(fun (vT:Value) (wT:World)=>∃ (xT0:List Value) (xT1:Value),vT = .tuple #[.agg xT0.toArray,xT1,vI ((AJ CZ (kL.take 2) ([(4:Int)]) (1:Int) ([])).2.2)]∧Enc.circle.rd wT ((Bs_ 1)++O) xT0 (kZ)∧BG Enc.share wT ((Bs_ 1)++O) xT1 ((AJ CZ (kL.take 2) ([(4:Int)]) (1:Int) ([])).2.1)) (F1 136) w1:=hd 5 136 kR kR
   have:=hl7352.len_le
   have hl7352:=hl7352.mv (Mv.at_ (hr_ 1 kR))
   obtain ⟨F2,rfl⟩:=AL (F:=F1) [(136,vT #[vA cs7349.toArray,x7351,vI ((AJ CZ (kL.take 2) ([(4:Int)]) (1:Int) ([])).2.2)])] ⟨e7353,trivial⟩
   exact AH rfl ((AN (x7351) rfl rfl (⟨[],(Keep.refl _ _),OB,hl7352⟩)))
  ·intro F1 w1 B1_ Bs_ k1 hs_ hl_ hr_ hsep_ hf hd
   obtain ⟨cs7354,x7356,e7358,hs7355,hl7357⟩:(fun (vT:Value) (wT:World)=>∃ (xT0:List Value) (xT1:Value),vT = .tuple #[.agg xT0.toArray,xT1,vI ((AJ CZ (kL.take 2) ([(4:Int)]) (1:Int) ([])).2.2)]∧Enc.circle.rd wT ((Bs_ 1)++O) xT0 (kZ)∧BG Enc.share wT ((Bs_ 1)++O) xT1 ((AJ CZ (kL.take 2) ([(4:Int)]) (1:Int) ([])).2.1)) (F1 136) w1:=hd 5 136 kR kR
   have:=hl7357.len_le
   obtain ⟨F2,rfl⟩:=AL (F:=F1) [(136,vT #[vA cs7354.toArray,x7356,vI ((AJ CZ (kL.take 2) ([(4:Int)]) (1:Int) ([])).2.2)])] ⟨e7358,trivial⟩
   exact AH rfl ((AN (vI ((AJ CZ (kL.take 2) ([(4:Int)]) (1:Int) ([])).2.2)) rfl rfl (⟨[],(Keep.refl _ _),OB,rfl⟩)))
  ·intro F1 w1 B1_ Bs_ k1 hs_ hl_ hr_ hsep_ hf hd
   have k0:=(Keep.drew [] w7305).trans k1
   have s1:=s7308.adoptL k0 hl_
   obtain ⟨F2,rfl⟩:=AL (F:=F1) [] trivial
   refine AH rfl ((CX [vI 0,vI 0,vI 0,nS,nS] II rfl s1 fun b7359 w7360 e7365 s7361 m7362 k7363 bx7364=>(?_)))
   have lo7366:w7305.heap.size≤b7359:=by have:=k0.size;omega
   exact ⟨[],k7363,OB,⟨_,rfl,lo7366,(by intro h;have:=lt_of s1 _ h;omega),bx7364⟩⟩
  ·intro F7368 w7369 Bs7374 k7367 hB7375 hl7376 sep7377 hT7370 hF7371
   obtain ⟨b7378,e7382,lo7379,hn7380,bx7383⟩:(SD w7305 28 [vI 0,vI 0,vI 0,nS,nS]) (Bs7374 2) (F7368 19) w7369:=hT7370 9 19 kR (by decide) kR kR
   have hi7381:=bx7383.lt
   have hl7384:∀ x∈(b7133 :: (b7081 :: [])),x∈(b7133 :: (b7081 :: []))∨(w7305.heap.size≤x∧x<w7369.heap.size):=fun x hx=>.inl hx
   have hsu7385:∀ x∈(b7133 :: (b7081 :: [])),x∈(b7133 :: (b7081 :: [])):=fun x hx=>hx
   have hq7386:∀ x∈(b7133 :: (b7081 :: [])),x∈Bs7374 1:=fun x hx=>hB7375 1 x hx
   have hq7387:∀ x∈(b7133 :: (b7081 :: [])),x∈Bs7374 2:=fun x hx=>hB7375 2 x hx
   have hl7388:∀ x∈(b7378 :: (b7133 :: (b7081 :: []))),x∈(b7133 :: (b7081 :: []))∨(w7305.heap.size≤x∧x<w7369.heap.size):=fun x hx=>by rcases List.mem_cons.1 hx with rfl|hx;exact .inr ⟨lo7379,hi7381⟩;exact hl7384 x hx
   have hsu7389:∀ x∈(b7133 :: (b7081 :: [])),x∈(b7378 :: (b7133 :: (b7081 :: []))):=fun x hx=>List.mem_cons_of_mem _ (hsu7385 x hx)
   have hq7390:∀ x∈(b7378 :: (b7133 :: (b7081 :: []))),x∈Bs7374 1:=fun x hx=>by rcases List.mem_cons.1 hx with rfl|hx;exact sep7377 2 1 _ (by decide) lo7379 hi7381 hn7380;exact hq7386 x hx
   have s7372:=s7308.adoptL k7367 hl7388
   have m7373:Mv (b7133 :: (b7081 :: [])) w7305 (b7378 :: (b7133 :: (b7081 :: []))) w7369:=Mv.adoptL k7367 hl7388
   have ne7391:FH b7081 b7378:=by show b7081≠b7378;have:=bx7221.lt;omega
   have ne7392:FH b7133 b7378:=by show b7133≠b7378;have:=bx7145.lt;omega
   obtain ⟨cs7393,e7395,hs7394⟩:∃ cs:List Value,F7368 142 = .agg cs.toArray∧Enc.circle.rd w7369 ((Bs7374 1)++O) cs (kZ):=hT7370 6 142 kR (by decide) kR kR
   have hs7394:Enc.circle.rd w7369 ((b7378 :: (b7133 :: (b7081 :: [])))++O) cs7393 (kZ):=Enc.mv Enc.circle (x:=kZ) hs7394 (Mv.at_ hq7390)
   obtain ⟨v7396,e7398,hl7397⟩:∃ v,F7368 143=v∧BG Enc.share w7369 ((Bs7374 1)++O) v ((AJ CZ (kL.take 2) ([(4:Int)]) (1:Int) ([])).2.1):=⟨_,rfl,hT7370 7 143 kR (by decide) kR kR⟩
   have:=hl7397.len_le
   have hl7397:=hl7397.mv (Mv.at_ hq7390)
   have hl7116:=hl7116.mv m7373
   have hl7132:=hl7132.mv m7373
   have hl7273:=hl7273.mv m7373
   have hd7223:=hd7223.mv m7373
   have hd7225:=hd7225.mv m7373
   have bx7221:=bx7221.keep k7367 (by simp)
   have hd7147:=hd7147.mv m7373
   have hd7149:=hd7149.mv m7373
   have bx7145:=bx7145.keep k7367 (by simp)
   obtain ⟨F2,rfl⟩:=AL (F:=F7368) [(1,vP (some ⟨b7081,0,none⟩)),(3,x7115),(5,vP (some ⟨b7133,0,none⟩)),(6,x7131),(11,vI ((BS kA ((AV kC (1:Int)).2.1) kL).2)),(15,v7272),(16,vI ((BS CZ ((AV kC (1:Int)).2.1) (kL.drop 1)).2)),(18,vI ((BS CZ ((AV kC (1:Int)).2.1) (((AK kC kL ([(4:UInt8)])).2.1).drop 1)).2)),(252,undef),(19,vP (some ⟨b7378,0,none⟩)),(142,vA cs7393.toArray),(143,v7396),(144,vI ((AJ CZ (kL.take 2) ([(4:Int)]) (1:Int) ([])).2.2))] ⟨hF7371 1 kR,hF7371 3 kR,hF7371 5 kR,hF7371 6 kR,hF7371 11 kR,hF7371 15 kR,hF7371 16 kR,hF7371 18 kR,hF7371 252 kR,e7382,e7395,e7398,hT7370 8 144 kR (by decide) kR kR,trivial⟩
   clear hT7370 hF7371 hB7375 hl7376 sep7377
   obtain ⟨d7404,d7406,rfl,hd7405,hd7407⟩:=hs7394
   have:=hd7405.len_le
   have:=hd7407.len_le
   refine BY (BC (vs:=[vI kZ.epoch,vI kZ.threshold,vI kZ.wait,d7404,d7406]) (.agg #[vI kZ.epoch,vI kZ.threshold,vI kZ.wait,d7404,d7406]) rfl rfl rfl BL (fun u hu=>by simp only [List.mem_cons,List.not_mem_nil,or_false] at hu;rcases hu with rfl|rfl|rfl|rfl|rfl <;> first|rfl|exact hd7405.oneCell|exact hd7407.oneCell) (by repeat (constructor)) bx7383 oT s7372 fun w7399 s7400 m7401 k7402 bx7403=>(?_))
   have hl7116:=hl7116.mv m7401
   have hl7132:=hl7132.mv m7401
   have hl7273:=hl7273.mv m7401
   have hd7405:=hd7405.mv m7401
   have hd7407:=hd7407.mv m7401
   have hl7397:=hl7397.mv m7401
   have hd7223:=hd7223.mv m7401
   have hd7225:=hd7225.mv m7401
   have bx7221:=bx7221.keep k7402 (BH ne7391)
   have hd7147:=hd7147.mv m7401
   have hd7149:=hd7149.mv m7401
   have bx7145:=bx7145.keep k7402 (BH ne7392)
   refine AA (AD (v7396) rfl (AA (AD (vI ((AJ CZ (kL.take 2) ([(4:Int)]) (1:Int) ([])).2.2)) rfl (AF (AC (?_))))))
   exact ⟨b7378,d7404,d7406,v7396,(b7378 :: (b7133 :: (b7081 :: []))),trivial,⟨_,AX _ ⟨rfl,rfl,rfl,rfl,rfl,rfl,rfl,rfl,rfl,rfl,(by rfl),rfl,trivial⟩⟩,s7400,(by rw [show kW=(AJ CZ (kL.take 2) ([(4:Int)]) (1:Int) ([])).2.1 from rfl];exact hl7397),hl7116,hl7132,hl7273,hd7223,hd7225,bx7221,(by (repeat (first|exact List.mem_cons_self|apply List.mem_cons_of_mem))),hd7147,hd7149,bx7145,(by (repeat (first|exact List.mem_cons_self|apply List.mem_cons_of_mem))),bx7403,hd7405,hd7407,(by repeat (constructor)),ne7391,ne7392⟩
  ·intro cx_ hcx_
   match cx_,hcx_ with
   | 0,_=>
    intro F7409 w7410 Bs7415 k7408 hB7416 hl7417 sep7418 hT7411 hF7412
    obtain ⟨b7419,e7423,lo7420,hn7421,bx7424⟩:(SD w7305 28 [vI 0,vI 0,vI 0,nS,nS]) (Bs7415 2) (F7409 19) w7410:=hT7411 9 19 kR (by decide) kR kR
    have hi7422:=bx7424.lt
    have hl7425:∀ x∈(b7133 :: (b7081 :: [])),x∈(b7133 :: (b7081 :: []))∨(w7305.heap.size≤x∧x<w7410.heap.size):=fun x hx=>.inl hx
    have hsu7426:∀ x∈(b7133 :: (b7081 :: [])),x∈(b7133 :: (b7081 :: [])):=fun x hx=>hx
    have hq7427:∀ x∈(b7133 :: (b7081 :: [])),x∈Bs7415 1:=fun x hx=>hB7416 1 x hx
    have hq7428:∀ x∈(b7133 :: (b7081 :: [])),x∈Bs7415 2:=fun x hx=>hB7416 2 x hx
    have hl7429:∀ x∈(b7419 :: (b7133 :: (b7081 :: []))),x∈(b7133 :: (b7081 :: []))∨(w7305.heap.size≤x∧x<w7410.heap.size):=fun x hx=>by rcases List.mem_cons.1 hx with rfl|hx;exact .inr ⟨lo7420,hi7422⟩;exact hl7425 x hx
    have hsu7430:∀ x∈(b7133 :: (b7081 :: [])),x∈(b7419 :: (b7133 :: (b7081 :: []))):=fun x hx=>List.mem_cons_of_mem _ (hsu7426 x hx)
    have hq7431:∀ x∈(b7419 :: (b7133 :: (b7081 :: []))),x∈Bs7415 1:=fun x hx=>by rcases List.mem_cons.1 hx with rfl|hx;exact sep7418 2 1 _ (by decide) lo7420 hi7422 hn7421;exact hq7427 x hx
    have s7413:=s7308.adoptL k7408 hl7429
    have m7414:Mv (b7133 :: (b7081 :: [])) w7305 (b7419 :: (b7133 :: (b7081 :: []))) w7410:=Mv.adoptL k7408 hl7429
    have ne7432:FH b7081 b7419:=by show b7081≠b7419;have:=bx7221.lt;omega
    have ne7433:FH b7133 b7419:=by show b7133≠b7419;have:=bx7145.lt;omega
    obtain ⟨cs7434,x7436,e7438,hs7435,hl7437⟩:(fun (vT:Value) (wT:World)=>∃ (xT0:List Value) (xT1:Value),vT = .tuple #[.agg xT0.toArray,xT1,vI ((AJ CZ (kL.take 2) ([(4:Int)]) (1:Int) ([])).2.2)]∧Enc.circle.rd wT ((Bs7415 1)++O) xT0 (kZ)∧BG Enc.share wT ((Bs7415 1)++O) xT1 ((AJ CZ (kL.take 2) ([(4:Int)]) (1:Int) ([])).2.1)) (F7409 136) w7410:=hT7411 5 136 kR (by decide) kR kR
    have:=hl7437.len_le
    have hl7437:=hl7437.mv (Mv.at_ hq7431)
    obtain ⟨cs7439,e7441,hs7440⟩:∃ cs:List Value,F7409 142 = .agg cs.toArray∧Enc.circle.rd w7410 ((Bs7415 1)++O) cs (kZ):=hT7411 6 142 kR (by decide) kR kR
    have hs7440:Enc.circle.rd w7410 ((b7419 :: (b7133 :: (b7081 :: [])))++O) cs7439 (kZ):=Enc.mv Enc.circle (x:=kZ) hs7440 (Mv.at_ hq7431)
    have hl7116:=hl7116.mv m7414
    have hl7132:=hl7132.mv m7414
    have hl7273:=hl7273.mv m7414
    have hd7223:=hd7223.mv m7414
    have hd7225:=hd7225.mv m7414
    have bx7221:=bx7221.keep k7408 (by simp)
    have hd7147:=hd7147.mv m7414
    have hd7149:=hd7149.mv m7414
    have bx7145:=bx7145.keep k7408 (by simp)
    obtain ⟨F2,rfl⟩:=AL (F:=F7409) [(1,vP (some ⟨b7081,0,none⟩)),(3,x7115),(5,vP (some ⟨b7133,0,none⟩)),(6,x7131),(11,vI ((BS kA ((AV kC (1:Int)).2.1) kL).2)),(15,v7272),(16,vI ((BS CZ ((AV kC (1:Int)).2.1) (kL.drop 1)).2)),(18,vI ((BS CZ ((AV kC (1:Int)).2.1) (((AK kC kL ([(4:UInt8)])).2.1).drop 1)).2)),(252,undef),(19,vP (some ⟨b7419,0,none⟩)),(136,vT #[vA cs7434.toArray,x7436,vI ((AJ CZ (kL.take 2) ([(4:Int)]) (1:Int) ([])).2.2)]),(142,vA cs7439.toArray),(144,vI ((AJ CZ (kL.take 2) ([(4:Int)]) (1:Int) ([])).2.2))] ⟨hF7412 1 kR,hF7412 3 kR,hF7412 5 kR,hF7412 6 kR,hF7412 11 kR,hF7412 15 kR,hF7412 16 kR,hF7412 18 kR,hF7412 252 kR,e7423,e7438,e7441,hT7411 8 144 kR (by decide) kR kR,trivial⟩
    clear hT7411 hF7412 hB7416 hl7417 sep7418
    obtain ⟨d7447,d7449,rfl,hd7448,hd7450⟩:=hs7440
    have:=hd7448.len_le
    have:=hd7450.len_le
    refine BY (BC (vs:=[vI kZ.epoch,vI kZ.threshold,vI kZ.wait,d7447,d7449]) (.agg #[vI kZ.epoch,vI kZ.threshold,vI kZ.wait,d7447,d7449]) rfl rfl rfl BL (fun u hu=>by simp only [List.mem_cons,List.not_mem_nil,or_false] at hu;rcases hu with rfl|rfl|rfl|rfl|rfl <;> first|rfl|exact hd7448.oneCell|exact hd7450.oneCell) (by repeat (constructor)) bx7424 oT s7413 fun w7442 s7443 m7444 k7445 bx7446=>(?_))
    have hl7116:=hl7116.mv m7444
    have hl7132:=hl7132.mv m7444
    have hl7273:=hl7273.mv m7444
    have hl7437:=hl7437.mv m7444
    have hd7448:=hd7448.mv m7444
    have hd7450:=hd7450.mv m7444
    have hd7223:=hd7223.mv m7444
    have hd7225:=hd7225.mv m7444
    have bx7221:=bx7221.keep k7445 (BH ne7432)
    have hd7147:=hd7147.mv m7444
    have hd7149:=hd7149.mv m7444
    have bx7145:=bx7145.keep k7445 (BH ne7433)
    refine AA (AN (x7436) rfl rfl (AA (AD (x7436) rfl (AA (AD (vI ((AJ CZ (kL.take 2) ([(4:Int)]) (1:Int) ([])).2.2)) rfl (AF (AC (?_))))))))
    exact ⟨b7419,d7447,d7449,x7436,(b7419 :: (b7133 :: (b7081 :: []))),trivial,⟨_,AX _ ⟨rfl,rfl,rfl,rfl,rfl,rfl,rfl,rfl,rfl,rfl,(by rfl),rfl,trivial⟩⟩,s7443,(by rw [show kW=(AJ CZ (kL.take 2) ([(4:Int)]) (1:Int) ([])).2.1 from rfl];exact hl7437),hl7116,hl7132,hl7273,hd7223,hd7225,bx7221,(by (repeat (first|exact List.mem_cons_self|apply List.mem_cons_of_mem))),hd7147,hd7149,bx7145,(by (repeat (first|exact List.mem_cons_self|apply List.mem_cons_of_mem))),bx7446,hd7448,hd7450,(by repeat (constructor)),ne7432,ne7433⟩
   | 1,_=>
    intro F7452 w7453 Bs7458 k7451 hB7459 hl7460 sep7461 hT7454 hF7455
    obtain ⟨b7462,e7466,lo7463,hn7464,bx7467⟩:(SD w7305 28 [vI 0,vI 0,vI 0,nS,nS]) (Bs7458 2) (F7452 19) w7453:=hT7454 9 19 kR (by decide) kR kR
    have hi7465:=bx7467.lt
    have hl7468:∀ x∈(b7133 :: (b7081 :: [])),x∈(b7133 :: (b7081 :: []))∨(w7305.heap.size≤x∧x<w7453.heap.size):=fun x hx=>.inl hx
    have hsu7469:∀ x∈(b7133 :: (b7081 :: [])),x∈(b7133 :: (b7081 :: [])):=fun x hx=>hx
    have hq7470:∀ x∈(b7133 :: (b7081 :: [])),x∈Bs7458 1:=fun x hx=>hB7459 1 x hx
    have hq7471:∀ x∈(b7133 :: (b7081 :: [])),x∈Bs7458 2:=fun x hx=>hB7459 2 x hx
    have hl7472:∀ x∈(b7462 :: (b7133 :: (b7081 :: []))),x∈(b7133 :: (b7081 :: []))∨(w7305.heap.size≤x∧x<w7453.heap.size):=fun x hx=>by rcases List.mem_cons.1 hx with rfl|hx;exact .inr ⟨lo7463,hi7465⟩;exact hl7468 x hx
    have hsu7473:∀ x∈(b7133 :: (b7081 :: [])),x∈(b7462 :: (b7133 :: (b7081 :: []))):=fun x hx=>List.mem_cons_of_mem _ (hsu7469 x hx)
    have hq7474:∀ x∈(b7462 :: (b7133 :: (b7081 :: []))),x∈Bs7458 1:=fun x hx=>by rcases List.mem_cons.1 hx with rfl|hx;exact sep7461 2 1 _ (by decide) lo7463 hi7465 hn7464;exact hq7470 x hx
    have s7456:=s7308.adoptL k7451 hl7472
    have m7457:Mv (b7133 :: (b7081 :: [])) w7305 (b7462 :: (b7133 :: (b7081 :: []))) w7453:=Mv.adoptL k7451 hl7472
    have ne7475:FH b7081 b7462:=by show b7081≠b7462;have:=bx7221.lt;omega
    have ne7476:FH b7133 b7462:=by show b7133≠b7462;have:=bx7145.lt;omega
    obtain ⟨cs7477,x7479,e7481,hs7478,hl7480⟩:(fun (vT:Value) (wT:World)=>∃ (xT0:List Value) (xT1:Value),vT = .tuple #[.agg xT0.toArray,xT1,vI ((AJ CZ (kL.take 2) ([(4:Int)]) (1:Int) ([])).2.2)]∧Enc.circle.rd wT ((Bs7458 1)++O) xT0 (kZ)∧BG Enc.share wT ((Bs7458 1)++O) xT1 ((AJ CZ (kL.take 2) ([(4:Int)]) (1:Int) ([])).2.1)) (F7452 136) w7453:=hT7454 5 136 kR (by decide) kR kR
    have:=hl7480.len_le
    obtain ⟨cs7482,e7484,hs7483⟩:∃ cs:List Value,F7452 142 = .agg cs.toArray∧Enc.circle.rd w7453 ((Bs7458 1)++O) cs (kZ):=hT7454 6 142 kR (by decide) kR kR
    have hs7483:Enc.circle.rd w7453 ((b7462 :: (b7133 :: (b7081 :: [])))++O) cs7482 (kZ):=Enc.mv Enc.circle (x:=kZ) hs7483 (Mv.at_ hq7474)
    obtain ⟨v7485,e7487,hl7486⟩:∃ v,F7452 143=v∧BG Enc.share w7453 ((Bs7458 1)++O) v ((AJ CZ (kL.take 2) ([(4:Int)]) (1:Int) ([])).2.1):=⟨_,rfl,hT7454 7 143 kR (by decide) kR kR⟩
    have:=hl7486.len_le
    have hl7486:=hl7486.mv (Mv.at_ hq7474)
    have hl7116:=hl7116.mv m7457
    have hl7132:=hl7132.mv m7457
    have hl7273:=hl7273.mv m7457
    have hd7223:=hd7223.mv m7457
    have hd7225:=hd7225.mv m7457
    have bx7221:=bx7221.keep k7451 (by simp)
    have hd7147:=hd7147.mv m7457
    have hd7149:=hd7149.mv m7457
    have bx7145:=bx7145.keep k7451 (by simp)
    obtain ⟨F2,rfl⟩:=AL (F:=F7452) [(1,vP (some ⟨b7081,0,none⟩)),(3,x7115),(5,vP (some ⟨b7133,0,none⟩)),(6,x7131),(11,vI ((BS kA ((AV kC (1:Int)).2.1) kL).2)),(15,v7272),(16,vI ((BS CZ ((AV kC (1:Int)).2.1) (kL.drop 1)).2)),(18,vI ((BS CZ ((AV kC (1:Int)).2.1) (((AK kC kL ([(4:UInt8)])).2.1).drop 1)).2)),(252,undef),(19,vP (some ⟨b7462,0,none⟩)),(136,vT #[vA cs7477.toArray,x7479,vI ((AJ CZ (kL.take 2) ([(4:Int)]) (1:Int) ([])).2.2)]),(142,vA cs7482.toArray),(143,v7485)] ⟨hF7455 1 kR,hF7455 3 kR,hF7455 5 kR,hF7455 6 kR,hF7455 11 kR,hF7455 15 kR,hF7455 16 kR,hF7455 18 kR,hF7455 252 kR,e7466,e7481,e7484,e7487,trivial⟩
    clear hT7454 hF7455 hB7459 hl7460 sep7461
    obtain ⟨d7493,d7495,rfl,hd7494,hd7496⟩:=hs7483
    have:=hd7494.len_le
    have:=hd7496.len_le
    refine BY (BC (vs:=[vI kZ.epoch,vI kZ.threshold,vI kZ.wait,d7493,d7495]) (.agg #[vI kZ.epoch,vI kZ.threshold,vI kZ.wait,d7493,d7495]) rfl rfl rfl BL (fun u hu=>by simp only [List.mem_cons,List.not_mem_nil,or_false] at hu;rcases hu with rfl|rfl|rfl|rfl|rfl <;> first|rfl|exact hd7494.oneCell|exact hd7496.oneCell) (by repeat (constructor)) bx7467 oT s7456 fun w7488 s7489 m7490 k7491 bx7492=>(?_))
    have hl7116:=hl7116.mv m7490
    have hl7132:=hl7132.mv m7490
    have hl7273:=hl7273.mv m7490
    have hd7494:=hd7494.mv m7490
    have hd7496:=hd7496.mv m7490
    have hl7486:=hl7486.mv m7490
    have hd7223:=hd7223.mv m7490
    have hd7225:=hd7225.mv m7490
    have bx7221:=bx7221.keep k7491 (BH ne7475)
    have hd7147:=hd7147.mv m7490
    have hd7149:=hd7149.mv m7490
    have bx7145:=bx7145.keep k7491 (BH ne7476)
    refine AA (AN (vI ((AJ CZ (kL.take 2) ([(4:Int)]) (1:Int) ([])).2.2)) rfl rfl (AA (AD (v7485) rfl (AA (AD (vI ((AJ CZ (kL.take 2) ([(4:Int)]) (1:Int) ([])).2.2)) rfl (AF (AC (?_))))))))
    exact ⟨b7462,d7493,d7495,v7485,(b7462 :: (b7133 :: (b7081 :: []))),trivial,⟨_,AX _ ⟨rfl,rfl,rfl,rfl,rfl,rfl,rfl,rfl,rfl,rfl,(by rfl),rfl,trivial⟩⟩,s7489,(by rw [show kW=(AJ CZ (kL.take 2) ([(4:Int)]) (1:Int) ([])).2.1 from rfl];exact hl7486),hl7116,hl7132,hl7273,hd7223,hd7225,bx7221,(by (repeat (first|exact List.mem_cons_self|apply List.mem_cons_of_mem))),hd7147,hd7149,bx7145,(by (repeat (first|exact List.mem_cons_self|apply List.mem_cons_of_mem))),bx7492,hd7494,hd7496,(by repeat (constructor)),ne7475,ne7476⟩
   | 2,_=>
    intro F7498 w7499 Bs7504 k7497 hB7505 hl7506 sep7507 hT7500 hF7501
    obtain ⟨b7508,e7512,lo7509,hn7510,bx7513⟩:(SD w7305 28 [vI 0,vI 0,vI 0,nS,nS]) (Bs7504 2) (F7498 19) w7499:=hT7500 9 19 kR (by decide) kR kR
    have hi7511:=bx7513.lt
    have hl7514:∀ x∈(b7133 :: (b7081 :: [])),x∈(b7133 :: (b7081 :: []))∨(w7305.heap.size≤x∧x<w7499.heap.size):=fun x hx=>.inl hx
    have hsu7515:∀ x∈(b7133 :: (b7081 :: [])),x∈(b7133 :: (b7081 :: [])):=fun x hx=>hx
    have hq7516:∀ x∈(b7133 :: (b7081 :: [])),x∈Bs7504 1:=fun x hx=>hB7505 1 x hx
    have hq7517:∀ x∈(b7133 :: (b7081 :: [])),x∈Bs7504 2:=fun x hx=>hB7505 2 x hx
    have hl7518:∀ x∈(b7508 :: (b7133 :: (b7081 :: []))),x∈(b7133 :: (b7081 :: []))∨(w7305.heap.size≤x∧x<w7499.heap.size):=fun x hx=>by rcases List.mem_cons.1 hx with rfl|hx;exact .inr ⟨lo7509,hi7511⟩;exact hl7514 x hx
    have hsu7519:∀ x∈(b7133 :: (b7081 :: [])),x∈(b7508 :: (b7133 :: (b7081 :: []))):=fun x hx=>List.mem_cons_of_mem _ (hsu7515 x hx)
    have hq7520:∀ x∈(b7508 :: (b7133 :: (b7081 :: []))),x∈Bs7504 1:=fun x hx=>by rcases List.mem_cons.1 hx with rfl|hx;exact sep7507 2 1 _ (by decide) lo7509 hi7511 hn7510;exact hq7516 x hx
    have s7502:=s7308.adoptL k7497 hl7518
    have m7503:Mv (b7133 :: (b7081 :: [])) w7305 (b7508 :: (b7133 :: (b7081 :: []))) w7499:=Mv.adoptL k7497 hl7518
    have ne7521:FH b7081 b7508:=by show b7081≠b7508;have:=bx7221.lt;omega
    have ne7522:FH b7133 b7508:=by show b7133≠b7508;have:=bx7145.lt;omega
    obtain ⟨cs7523,x7525,e7527,hs7524,hl7526⟩:(fun (vT:Value) (wT:World)=>∃ (xT0:List Value) (xT1:Value),vT = .tuple #[.agg xT0.toArray,xT1,vI ((AJ CZ (kL.take 2) ([(4:Int)]) (1:Int) ([])).2.2)]∧Enc.circle.rd wT ((Bs7504 1)++O) xT0 (kZ)∧BG Enc.share wT ((Bs7504 1)++O) xT1 ((AJ CZ (kL.take 2) ([(4:Int)]) (1:Int) ([])).2.1)) (F7498 136) w7499:=hT7500 5 136 kR (by decide) kR kR
    have:=hl7526.len_le
    have hl7526:=hl7526.mv (Mv.at_ hq7520)
    obtain ⟨cs7528,e7530,hs7529⟩:∃ cs:List Value,F7498 142 = .agg cs.toArray∧Enc.circle.rd w7499 ((Bs7504 1)++O) cs (kZ):=hT7500 6 142 kR (by decide) kR kR
    have hs7529:Enc.circle.rd w7499 ((b7508 :: (b7133 :: (b7081 :: [])))++O) cs7528 (kZ):=Enc.mv Enc.circle (x:=kZ) hs7529 (Mv.at_ hq7520)
    have hl7116:=hl7116.mv m7503
    have hl7132:=hl7132.mv m7503
    have hl7273:=hl7273.mv m7503
    have hd7223:=hd7223.mv m7503
    have hd7225:=hd7225.mv m7503
    have bx7221:=bx7221.keep k7497 (by simp)
    have hd7147:=hd7147.mv m7503
    have hd7149:=hd7149.mv m7503
    have bx7145:=bx7145.keep k7497 (by simp)
    obtain ⟨F2,rfl⟩:=AL (F:=F7498) [(1,vP (some ⟨b7081,0,none⟩)),(3,x7115),(5,vP (some ⟨b7133,0,none⟩)),(6,x7131),(11,vI ((BS kA ((AV kC (1:Int)).2.1) kL).2)),(15,v7272),(16,vI ((BS CZ ((AV kC (1:Int)).2.1) (kL.drop 1)).2)),(18,vI ((BS CZ ((AV kC (1:Int)).2.1) (((AK kC kL ([(4:UInt8)])).2.1).drop 1)).2)),(252,undef),(19,vP (some ⟨b7508,0,none⟩)),(136,vT #[vA cs7523.toArray,x7525,vI ((AJ CZ (kL.take 2) ([(4:Int)]) (1:Int) ([])).2.2)]),(142,vA cs7528.toArray)] ⟨hF7501 1 kR,hF7501 3 kR,hF7501 5 kR,hF7501 6 kR,hF7501 11 kR,hF7501 15 kR,hF7501 16 kR,hF7501 18 kR,hF7501 252 kR,e7512,e7527,e7530,trivial⟩
    clear hT7500 hF7501 hB7505 hl7506 sep7507
    obtain ⟨d7536,d7538,rfl,hd7537,hd7539⟩:=hs7529
    have:=hd7537.len_le
    have:=hd7539.len_le
    refine BY (BC (vs:=[vI kZ.epoch,vI kZ.threshold,vI kZ.wait,d7536,d7538]) (.agg #[vI kZ.epoch,vI kZ.threshold,vI kZ.wait,d7536,d7538]) rfl rfl rfl BL (fun u hu=>by simp only [List.mem_cons,List.not_mem_nil,or_false] at hu;rcases hu with rfl|rfl|rfl|rfl|rfl <;> first|rfl|exact hd7537.oneCell|exact hd7539.oneCell) (by repeat (constructor)) bx7513 oT s7502 fun w7531 s7532 m7533 k7534 bx7535=>(?_))
    have hl7116:=hl7116.mv m7533
    have hl7132:=hl7132.mv m7533
    have hl7273:=hl7273.mv m7533
    have hl7526:=hl7526.mv m7533
    have hd7537:=hd7537.mv m7533
    have hd7539:=hd7539.mv m7533
    have hd7223:=hd7223.mv m7533
    have hd7225:=hd7225.mv m7533
    have bx7221:=bx7221.keep k7534 (BH ne7521)
    have hd7147:=hd7147.mv m7533
    have hd7149:=hd7149.mv m7533
    have bx7145:=bx7145.keep k7534 (BH ne7522)
    refine AA (AN (x7525) rfl rfl (AA (AN (vI ((AJ CZ (kL.take 2) ([(4:Int)]) (1:Int) ([])).2.2)) rfl rfl (AA (AD (x7525) rfl (AA (AD (vI ((AJ CZ (kL.take 2) ([(4:Int)]) (1:Int) ([])).2.2)) rfl (AF (AC (?_))))))))))
    exact ⟨b7508,d7536,d7538,x7525,(b7508 :: (b7133 :: (b7081 :: []))),trivial,⟨_,AX _ ⟨rfl,rfl,rfl,rfl,rfl,rfl,rfl,rfl,rfl,rfl,(by rfl),rfl,trivial⟩⟩,s7532,(by rw [show kW=(AJ CZ (kL.take 2) ([(4:Int)]) (1:Int) ([])).2.1 from rfl];exact hl7526),hl7116,hl7132,hl7273,hd7223,hd7225,bx7221,(by (repeat (first|exact List.mem_cons_self|apply List.mem_cons_of_mem))),hd7147,hd7149,bx7145,(by (repeat (first|exact List.mem_cons_self|apply List.mem_cons_of_mem))),bx7535,hd7537,hd7539,(by repeat (constructor)),ne7521,ne7522⟩
 ·intro F wlc146 hI
  clear hl7116 hl7132 hl7273 hd7223 hd7225 bx7221 hd7147 hd7149 bx7145
  obtain ⟨bnc146_19,vnc146_19_3,vnc146_19_4,vrc146_20,Blc146,hmc146,⟨Flc146,rfl⟩,slc146,hrdc146_20,hl7116,hl7132,hl7273,hd7223,hd7225,bx7221,hin_b7081,hd7147,hd7149,bx7145,hin_b7133,hbn_bnc146_19,hvnc146_19_3,hvnc146_19_4,hin_bnc146_19,nebnc146_19_b7081,nebnc146_19_b7133⟩:=hI
  have:=hrdc146_20.len_le
  have:=hvnc146_19_3.len_le
  have:=hvnc146_19_4.len_le
  refine AG (?_)
  refine AB kR (AA (EE (l:=[]) RS II rfl [] [vI 0,vI 0,vI 0,nS,nS] rfl rfl (AA (BB (vs:=[vA #[vI 0,vI 0,vI 0,nS,nS],nS,nS]) NA (SV (O:=Blc146++O) [vI 0,vI 0,vI 0,nS,nS] (⟨(0:Int),(0:Int),(0:Int),[],[]⟩:Circle) (.slice none 0 0) [] (.slice none 0 0) [] wlc146 ⟨.slice none 0 0, .slice none 0 0,rfl,(BG.nil _ _ _),(BG.nil _ _ _)⟩ (BG.nil _ _ _) (BG.nil _ _ _) slc146.lt) rfl slc146 fun v7540 w7541 s7542 m7543 k7544 r7545=>(?_)))))
  obtain ⟨x7546,rfl,hl7547⟩:=r7545
  have:=hl7547.len_le
  have hl7116:=hl7116.mv m7543
  have hl7132:=hl7132.mv m7543
  have hl7273:=hl7273.mv m7543
  have hrdc146_20:=hrdc146_20.mv m7543
  have hd7223:=hd7223.mv m7543
  have hd7225:=hd7225.mv m7543
  have bx7221:=bx7221.keep k7544 (by simp)
  have hd7147:=hd7147.mv m7543
  have hd7149:=hd7149.mv m7543
  have bx7145:=bx7145.keep k7544 (by simp)
  have hbn_bnc146_19:=hbn_bnc146_19.keep k7544 (by simp)
  refine AA (AE (vT #[x7546,vI ((AM (⟨(0:Int),(0:Int),(0:Int),[],[]⟩:Circle) ([]) ([])).2)]) rfl (AA (AN (x7546) rfl rfl (AA (AN (vI ((AM (⟨(0:Int),(0:Int),(0:Int),[],[]⟩:Circle) ([]) ([])).2)) rfl rfl (AA (AD (x7546) rfl (AA (AD (vI ((AM (⟨(0:Int),(0:Int),(0:Int),[],[]⟩:Circle) ([]) ([])).2)) rfl (AF (AC (?_))))))))))))
  refine AG (?_)
  refine AB kR (AA (BN (vs:=[vI CZ.epoch,vI CZ.threshold,vI CZ.wait,d7222,d7224]) U28_ rfl BL rfl bx7221 rfl (AA (BB (vs:=[vA #[vI CZ.epoch,vI CZ.threshold,vI CZ.wait,d7222,d7224],nS,nS]) PS (SK (O:=Blc146++O) [vI CZ.epoch,vI CZ.threshold,vI CZ.wait,d7222,d7224] CZ (.slice none 0 0) [] (.slice none 0 0) [] w7541 ⟨_,_,rfl,hd7223,hd7225⟩ (BG.nil _ _ _) (BG.nil _ _ _) s7542.lt) rfl s7542 fun v7548 w7549 s7550 m7551 k7552 r7553=>(?_)))))
  obtain ⟨cs7554,x7556,rfl,hs7555,hl7557⟩:=r7553
  have:=hl7557.len_le
  have hl7116:=hl7116.mv m7551
  have hl7132:=hl7132.mv m7551
  have hl7273:=hl7273.mv m7551
  have hrdc146_20:=hrdc146_20.mv m7551
  have bx7221:=bx7221.keep k7552 (by simp)
  have hd7147:=hd7147.mv m7551
  have hd7149:=hd7149.mv m7551
  have bx7145:=bx7145.keep k7552 (by simp)
  have hbn_bnc146_19:=hbn_bnc146_19.keep k7552 (by simp)
  refine AA (AE (vT #[vA cs7554.toArray,x7556,vI ((AK CZ ([]) ([])).2.2)]) rfl (AA (AN (vA cs7554.toArray) rfl rfl (AA (AN (x7556) rfl rfl (AA (AN (vI ((AK CZ ([]) ([])).2.2)) rfl rfl (AA (CX [vI 0,vI 0,vI 0,nS,nS] II rfl s7550 fun b7558 w7559 e7564 s7560 m7561 k7562 bx7563=>(?_))))))))))
  have ne7565:FH b7081 b7558:=by show b7081≠b7558;have:=bx7221.lt;omega
  have ne7566:FH b7133 b7558:=by show b7133≠b7558;have:=bx7145.lt;omega
  have ne7567:FH bnc146_19 b7558:=by show bnc146_19≠b7558;have:=hbn_bnc146_19.lt;omega
  clear e7564
  have hl7116:=hl7116.mv m7561
  have hl7132:=hl7132.mv m7561
  have hl7273:=hl7273.mv m7561
  have hrdc146_20:=hrdc146_20.mv m7561
  have hs7555:Enc.circle.rd w7559 ((b7558 :: Blc146)++O) cs7554 ((AK CZ ([]) ([])).1):=Enc.mv Enc.circle (x:=(AK CZ ([]) ([])).1) hs7555 m7561
  have hd7147:=hd7147.mv m7561
  have hd7149:=hd7149.mv m7561
  have bx7145:=bx7145.keep k7562 (by simp)
  have hbn_bnc146_19:=hbn_bnc146_19.keep k7562 (by simp)
  obtain ⟨d7573,d7575,rfl,hd7574,hd7576⟩:=hs7555
  have:=hd7574.len_le
  have:=hd7576.len_le
  refine BY (BC (vs:=[vI (((AK CZ ([]) ([])).1).epoch),vI (((AK CZ ([]) ([])).1).threshold),vI (((AK CZ ([]) ([])).1).wait),d7573,d7575]) (.agg #[vI (((AK CZ ([]) ([])).1).epoch),vI (((AK CZ ([]) ([])).1).threshold),vI (((AK CZ ([]) ([])).1).wait),d7573,d7575]) rfl rfl rfl BL (fun u hu=>by simp only [List.mem_cons,List.not_mem_nil,or_false] at hu;rcases hu with rfl|rfl|rfl|rfl|rfl <;> first|rfl|exact hd7574.oneCell|exact hd7576.oneCell) (by repeat (constructor)) bx7563 oT s7560 fun w7568 s7569 m7570 k7571 bx7572=>(?_))
  have hl7116:=hl7116.mv m7570
  have hl7132:=hl7132.mv m7570
  have hl7273:=hl7273.mv m7570
  have hrdc146_20:=hrdc146_20.mv m7570
  have hd7147:=hd7147.mv m7570
  have hd7149:=hd7149.mv m7570
  have bx7145:=bx7145.keep k7571 (BH ne7566)
  have hbn_bnc146_19:=hbn_bnc146_19.keep k7571 (BH ne7567)
  refine AA (AD (x7556) rfl (AA (AD (vI ((AK CZ ([]) ([])).2.2)) rfl (AF (AC (?_))))))
  refine AG (?_)
  refine AB kR (AA (BN (vs:=[vI kX.epoch,vI kX.threshold,vI kX.wait,d7146,d7148]) U28_ rfl BL rfl bx7145 rfl (AA (AE (x7131) rfl (AA (BB (vs:=[vA #[vI kX.epoch,vI kX.threshold,vI kX.wait,d7146,d7148],vI 0,x7131]) NM (TG (O:=(b7558 :: Blc146)++O) [vI kX.epoch,vI kX.threshold,vI kX.wait,d7146,d7148] kX (0:Int) x7131 ((AK kC kL ([(4:UInt8)])).2.1) w7568 ⟨_,_,rfl,hd7147,hd7149⟩ hl7132 s7569.lt) rfl s7569 fun v7577 w7578 s7579 m7580 k7581 r7582=>(?_)))))))
  obtain ⟨x7583,rfl,hl7584⟩:=r7582
  have:=hl7584.len_le
  have hl7116:=hl7116.mv m7580
  have hl7132:=hl7132.mv m7580
  have hl7273:=hl7273.mv m7580
  have hrdc146_20:=hrdc146_20.mv m7580
  have bx7145:=bx7145.keep k7581 (by simp)
  have hbn_bnc146_19:=hbn_bnc146_19.keep k7581 (by simp)
  refine AA (AE (vT #[x7583,vI ((BS kX (0:Int) ((AK kC kL ([(4:UInt8)])).2.1)).2)]) rfl (AA (AN (x7583) rfl rfl (AA (AN (vI ((BS kX (0:Int) ((AK kC kL ([(4:UInt8)])).2.1)).2)) rfl rfl (AA (AD (x7583) rfl (AA (AD (vI ((BS kX (0:Int) ((AK kC kL ([(4:UInt8)])).2.1)).2)) rfl (AF (AC (?_))))))))))))
  refine AG (?_)
  refine AB kR (AA (BB (vs:=[nS,nS,nS]) enter_18 (c_mixed (O:=(b7558 :: Blc146)++O) (.slice none 0 0) [] (.slice none 0 0) [] (.slice none 0 0) [] w7578 (BG.nil _ _ _) (BG.nil _ _ _) (BG.nil _ _ _) s7579.lt) rfl s7579 fun v7585 w7586 s7587 m7588 k7589 r7590=>(?_)))
  obtain ⟨x7591,rfl,hl7592⟩:=r7590
  have:=hl7592.len_le
  have hl7116:=hl7116.mv m7588
  have hl7132:=hl7132.mv m7588
  have hl7273:=hl7273.mv m7588
  have hrdc146_20:=hrdc146_20.mv m7588
  have bx7145:=bx7145.keep k7589 (by simp)
  have hbn_bnc146_19:=hbn_bnc146_19.keep k7589 (by simp)
  refine AA (AE (vT #[x7591,vI ((CA ([]) ([]) ([])).2)]) rfl (AA (AN (x7591) rfl rfl (AA (AN (vI ((CA ([]) ([]) ([])).2)) rfl rfl (AA (AD (x7591) rfl (AA (AD (vI ((CA ([]) ([]) ([])).2)) rfl (AF (AC (?_))))))))))))
  refine AG (?_)
  refine cw_draw' 10 _ _ [fun (vT:Value) (wT:World)=>BG Enc.share wT ((b7558 :: Blc146)++O) vT (kL),fun (vT:Value) (wT:World)=>BG Enc.share wT ((b7558 :: Blc146)++O) vT ((kL.take 1)),fun (vT:Value) (wT:World)=>BG Enc.share wT ((b7558 :: Blc146)++O) vT ((AK kC kL ([(4:UInt8)])).2.1),fun (vT:Value) (wT:World)=>BG Enc.share wT ((b7558 :: Blc146)++O) vT ((((AK kC kL ([(4:UInt8)])).2.1).drop 2)),fun (vT:Value) (wT:World)=>BG Enc.u8 wT ((b7558 :: Blc146)++O) vT ([(200:UInt8)]),fun (vT:Value) (wT:World)=>∃ (xT0:Value),vT = .tuple #[xT0,vI ((CA (kL.take 1) (((AK kC kL ([(4:UInt8)])).2.1).drop 2) ([(200:UInt8)])).2)]∧BG Enc.u8 wT ((b7558 :: Blc146)++O) xT0 ((CA (kL.take 1) (((AK kC kL ([(4:UInt8)])).2.1).drop 2) ([(200:UInt8)])).1),fun (vT:Value) (wT:World)=>∃ (xT0:Value),vT = .tuple #[xT0,vI ((CA (kL.take 1) (((AK kC kL ([(4:UInt8)])).2.1).drop 2) ([(200:UInt8)])).2)]∧BG Enc.u8 wT ((b7558 :: Blc146)++O) xT0 ((CA (kL.take 1) (((AK kC kL ([(4:UInt8)])).2.1).drop 2) ([(200:UInt8)])).1),fun (vT:Value) (wT:World)=>BG Enc.u8 wT ((b7558 :: Blc146)++O) vT ((CA (kL.take 1) (((AK kC kL ([(4:UInt8)])).2.1).drop 2) ([(200:UInt8)])).1),DF (vI ((CA (kL.take 1) (((AK kC kL ([(4:UInt8)])).2.1).drop 2) ([(200:UInt8)])).2)),fun (vT:Value) (wT:World)=>BG Enc.u8 wT ((b7558 :: Blc146)++O) vT ((CA (kL.take 1) (((AK kC kL ([(4:UInt8)])).2.1).drop 2) ([(200:UInt8)])).1)] kR kR kR kR rfl rfl ⟨fun _ _ _ h k=>h.mv (Mv.of_keep k),fun _ _ _ h k=>h.mv (Mv.of_keep k),fun _ _ _ h k=>h.mv (Mv.of_keep k),fun _ _ _ h k=>h.mv (Mv.of_keep k),fun _ _ _ h k=>h.mv (Mv.of_keep k),fun _ _ _ ⟨y0,e,h0⟩ k=>⟨y0,e,h0.mv (Mv.of_keep k)⟩,fun _ _ _ ⟨y0,e,h0⟩ k=>⟨y0,e,h0.mv (Mv.of_keep k)⟩,fun _ _ _ h k=>h.mv (Mv.of_keep k),kI,fun _ _ _ h k=>h.mv (Mv.of_keep k),trivial⟩ ⟨?_,?_,?_,?_,?_,?_,?_,?_,?_,?_,trivial⟩ ?_
  ·intro F1 w1 k1 hf hd
   have k0:=(Keep.drew [] w7586).trans k1
   have m1:Mv (b7558 :: Blc146) w7586 (b7558 :: Blc146) w1:=Mv.of_keep k0
   have hl7116:=hl7116.mv m1
   obtain ⟨F2,rfl⟩:=AL (F:=F1) [(3,x7115)] ⟨hf 3 kR,trivial⟩
   exact AH rfl ((AE (x7115) rfl (⟨(Keep.refl _ _),hl7116⟩)))
  ·intro F1 w1 k1 hf hd
   obtain ⟨v7593,e7595,hl7594⟩:∃ v,F1 167=v∧BG Enc.share w1 ((b7558 :: Blc146)++O) v (kL):=⟨_,rfl,hd 0 167 kR⟩
   have:=hl7594.len_le
   obtain ⟨F2,rfl⟩:=AL (F:=F1) [(167,v7593)] ⟨e7595,trivial⟩
   refine AH rfl ((NJ U32_ DM 0 1 rfl (.inl ⟨rfl,rfl⟩) (.inr ⟨.const (vI 1), .i64,(1:Int),rfl,rfl,rfl⟩) (by decide +kernel) (by decide +kernel) hl7594 fun v7596 hl7597=>(?_)))
   rw [List.drop_zero] at hl7597
   exact ⟨(Keep.refl _ _),hl7597⟩
  ·intro F1 w1 k1 hf hd
   have k0:=(Keep.drew [] w7586).trans k1
   have m1:Mv (b7558 :: Blc146) w7586 (b7558 :: Blc146) w1:=Mv.of_keep k0
   have hl7132:=hl7132.mv m1
   obtain ⟨F2,rfl⟩:=AL (F:=F1) [(6,x7131)] ⟨hf 6 kR,trivial⟩
   exact AH rfl ((AE (x7131) rfl (⟨(Keep.refl _ _),hl7132⟩)))
  ·intro F1 w1 k1 hf hd
   obtain ⟨v7598,e7600,hl7599⟩:∃ v,F1 169=v∧BG Enc.share w1 ((b7558 :: Blc146)++O) v ((AK kC kL ([(4:UInt8)])).2.1):=⟨_,rfl,hd 2 169 kR⟩
   have:=hl7599.len_le
   obtain ⟨F2,rfl⟩:=AL (F:=F1) [(169,v7598)] ⟨e7600,trivial⟩
   refine AH rfl ((NJ U32_ DM 2 (((AK kC kL ([(4:UInt8)])).2.1).length) rfl (.inr ⟨.const (vI 2), .i64,(2:Int),rfl,rfl,rfl⟩) (.inl ⟨rfl,rfl⟩) (by decide +kernel) (by decide +kernel) hl7599 fun v7601 hl7602=>(?_)))
   rw [List.take_length] at hl7602
   exact ⟨(Keep.refl _ _),hl7602⟩
  ·intro F1 w1 k1 hf hd
   have k0:=(Keep.drew [] w7586).trans k1
   have s1:=s7587.call k0
   obtain ⟨F2,rfl⟩:=AL (F:=F1) [] trivial
   refine AH rfl ((IK (E:=Enc.u8) (xs:=[.const (vB (200:UInt8))]) U23_ IJ z_5 (by decide) [vB (200:UInt8)] [[vB (200:UInt8)]] [(200:UInt8)] rfl rfl rfl (Parts.cons rfl rfl (Parts.nil _ _ _)) oT s1 fun v7607 w7603 s7604 m7605 k7606 hl7608=>(?_)))
   have:=hl7608.len_le
   exact ⟨k7606,hl7608⟩
  ·intro F1 w1 k1 hf hd
   have k0:=(Keep.drew [] w7586).trans k1
   have s1:=s7587.call k0
   obtain ⟨v7609,e7611,hl7610⟩:∃ v,F1 168=v∧BG Enc.share w1 ((b7558 :: Blc146)++O) v ((kL.take 1)):=⟨_,rfl,hd 1 168 kR⟩
   have:=hl7610.len_le
   obtain ⟨v7612,e7614,hl7613⟩:∃ v,F1 170=v∧BG Enc.share w1 ((b7558 :: Blc146)++O) v ((((AK kC kL ([(4:UInt8)])).2.1).drop 2)):=⟨_,rfl,hd 3 170 kR⟩
   have:=hl7613.len_le
   obtain ⟨v7615,e7617,hl7616⟩:∃ v,F1 171=v∧BG Enc.u8 w1 ((b7558 :: Blc146)++O) v ([(200:UInt8)]):=⟨_,rfl,hd 4 171 kR⟩
   have:=hl7616.len_le
   obtain ⟨F2,rfl⟩:=AL (F:=F1) [(168,v7609),(170,v7612),(171,v7615)] ⟨e7611,e7614,e7617,trivial⟩
   refine AH rfl ((BB (vs:=[v7609,v7612,v7615]) enter_18 (c_mixed (O:=(b7558 :: Blc146)++O) v7609 (kL.take 1) v7612 (((AK kC kL ([(4:UInt8)])).2.1).drop 2) v7615 ([(200:UInt8)]) w1 hl7610 hl7613 hl7616 s1.lt) rfl s1 fun v7618 w7619 s7620 m7621 k7622 r7623=>(?_)))
   obtain ⟨x7624,rfl,hl7625⟩:=r7623
   have:=hl7625.len_le
   exact ⟨k7622,⟨x7624,rfl,hl7625⟩⟩
  ·intro F1 w1 k1 hf hd
   obtain ⟨x7626,e7628,hl7627⟩:(fun (vT:Value) (wT:World)=>∃ (xT0:Value),vT = .tuple #[xT0,vI ((CA (kL.take 1) (((AK kC kL ([(4:UInt8)])).2.1).drop 2) ([(200:UInt8)])).2)]∧BG Enc.u8 wT ((b7558 :: Blc146)++O) xT0 ((CA (kL.take 1) (((AK kC kL ([(4:UInt8)])).2.1).drop 2) ([(200:UInt8)])).1)) (F1 172) w1:=hd 5 172 kR
   have:=hl7627.len_le
   obtain ⟨F2,rfl⟩:=AL (F:=F1) [(172,vT #[x7626,vI ((CA (kL.take 1) (((AK kC kL ([(4:UInt8)])).2.1).drop 2) ([(200:UInt8)])).2)])] ⟨e7628,trivial⟩
   exact AH rfl ((AE (vT #[x7626,vI ((CA (kL.take 1) (((AK kC kL ([(4:UInt8)])).2.1).drop 2) ([(200:UInt8)])).2)]) rfl (⟨(Keep.refl _ _),⟨x7626,rfl,hl7627⟩⟩)))
  ·intro F1 w1 k1 hf hd
   obtain ⟨x7629,e7631,hl7630⟩:(fun (vT:Value) (wT:World)=>∃ (xT0:Value),vT = .tuple #[xT0,vI ((CA (kL.take 1) (((AK kC kL ([(4:UInt8)])).2.1).drop 2) ([(200:UInt8)])).2)]∧BG Enc.u8 wT ((b7558 :: Blc146)++O) xT0 ((CA (kL.take 1) (((AK kC kL ([(4:UInt8)])).2.1).drop 2) ([(200:UInt8)])).1)) (F1 166) w1:=hd 6 166 kR
   have:=hl7630.len_le
   obtain ⟨F2,rfl⟩:=AL (F:=F1) [(166,vT #[x7629,vI ((CA (kL.take 1) (((AK kC kL ([(4:UInt8)])).2.1).drop 2) ([(200:UInt8)])).2)])] ⟨e7631,trivial⟩
   exact AH rfl ((AN (x7629) rfl rfl (⟨(Keep.refl _ _),hl7630⟩)))
  ·intro F1 w1 k1 hf hd
   obtain ⟨x7632,e7634,hl7633⟩:(fun (vT:Value) (wT:World)=>∃ (xT0:Value),vT = .tuple #[xT0,vI ((CA (kL.take 1) (((AK kC kL ([(4:UInt8)])).2.1).drop 2) ([(200:UInt8)])).2)]∧BG Enc.u8 wT ((b7558 :: Blc146)++O) xT0 ((CA (kL.take 1) (((AK kC kL ([(4:UInt8)])).2.1).drop 2) ([(200:UInt8)])).1)) (F1 166) w1:=hd 6 166 kR
   have:=hl7633.len_le
   obtain ⟨F2,rfl⟩:=AL (F:=F1) [(166,vT #[x7632,vI ((CA (kL.take 1) (((AK kC kL ([(4:UInt8)])).2.1).drop 2) ([(200:UInt8)])).2)])] ⟨e7634,trivial⟩
   exact AH rfl ((AN (vI ((CA (kL.take 1) (((AK kC kL ([(4:UInt8)])).2.1).drop 2) ([(200:UInt8)])).2)) rfl rfl (⟨(Keep.refl _ _),rfl⟩)))
  ·intro F1 w1 k1 hf hd
   obtain ⟨v7635,e7637,hl7636⟩:∃ v,F1 173=v∧BG Enc.u8 w1 ((b7558 :: Blc146)++O) v ((CA (kL.take 1) (((AK kC kL ([(4:UInt8)])).2.1).drop 2) ([(200:UInt8)])).1):=⟨_,rfl,hd 7 173 kR⟩
   have:=hl7636.len_le
   obtain ⟨F2,rfl⟩:=AL (F:=F1) [(173,v7635)] ⟨e7637,trivial⟩
   exact AH rfl ((AD (v7635) rfl (⟨(Keep.refl _ _),hl7636⟩)))
  intro F7639 w7640 k7638 hT7641 hF7642
  have s7643:=s7587.call k7638
  have m7644:Mv (b7558 :: Blc146) w7586 (b7558 :: Blc146) w7640:=Mv.of_keep k7638
  have hl7132:=hl7132.mv m7644
  have hl7273:=hl7273.mv m7644
  have hrdc146_20:=hrdc146_20.mv m7644
  have bx7145:=bx7145.keep k7638 (by simp)
  have hbn_bnc146_19:=hbn_bnc146_19.keep k7638 (by simp)
  obtain ⟨v7647,e7649,hl7648⟩:∃ v,F7639 31=v∧BG Enc.u8 w7640 ((b7558 :: Blc146)++O) v ((CA (kL.take 1) (((AK kC kL ([(4:UInt8)])).2.1).drop 2) ([(200:UInt8)])).1):=⟨_,rfl,hT7641 9 31 kR (by decide)⟩
  have:=hl7648.len_le
  obtain ⟨F2,rfl⟩:=AL (F:=F7639) [(5,vP (some ⟨b7133,0,none⟩)),(6,x7131),(11,vI ((BS kA ((AV kC (1:Int)).2.1) kL).2)),(15,v7272),(16,vI ((BS CZ ((AV kC (1:Int)).2.1) (kL.drop 1)).2)),(18,vI ((BS CZ ((AV kC (1:Int)).2.1) (((AK kC kL ([(4:UInt8)])).2.1).drop 1)).2)),(19,vP (some ⟨bnc146_19,0,none⟩)),(20,vrc146_20),(21,vI kE),(23,vI ((AM (⟨(0:Int),(0:Int),(0:Int),[],[]⟩:Circle) ([]) ([])).2)),(26,vI ((AK CZ ([]) ([])).2.2)),(28,vI ((BS kX (0:Int) ((AK kC kL ([(4:UInt8)])).2.1)).2)),(30,vI ((CA ([]) ([]) ([])).2)),(252,undef),(31,v7647),(174,vI ((CA (kL.take 1) (((AK kC kL ([(4:UInt8)])).2.1).drop 2) ([(200:UInt8)])).2))] ⟨hF7642 5 kR,hF7642 6 kR,hF7642 11 kR,hF7642 15 kR,hF7642 16 kR,hF7642 18 kR,hF7642 19 kR,hF7642 20 kR,hF7642 21 kR,hF7642 23 kR,hF7642 26 kR,hF7642 28 kR,hF7642 30 kR,hF7642 252 kR,e7649,hT7641 8 174 kR (by decide),trivial⟩
  clear hT7641 hF7642
  refine AA (AD (vI ((CA (kL.take 1) (((AK kC kL ([(4:UInt8)])).2.1).drop 2) ([(200:UInt8)])).2)) rfl (AF (AC (?_))))
  refine AG (?_)
  refine AG (?_)
  refine AB kR (AA (AE (vI ((BS CZ ((AV kC (1:Int)).2.1) (kL.drop 1)).2)) rfl (AA (CV .i64 ((BS CZ ((AV kC (1:Int)).2.1) (kL.drop 1)).2) (0:Int) rfl rfl (AA (AE (vO (((BS CZ ((AV kC (1:Int)).2.1) (kL.drop 1)).2) != (0:Int))) rfl (?_)))))))
  have hb7650:(((BS CZ ((AV kC (1:Int)).2.1) (kL.drop 1)).2) != (0:Int))=false:=(by decide +kernel)
  rw [hb7650]
  refine BE rfl (AE (vI ((BS CZ ((AV kC (1:Int)).2.1) (((AK kC kL ([(4:UInt8)])).2.1).drop 1)).2)) rfl (BE rfl (CV .i64 ((BS CZ ((AV kC (1:Int)).2.1) (((AK kC kL ([(4:UInt8)])).2.1).drop 1)).2) (460:Int) rfl rfl (AA (BX (vO (((BS CZ ((AV kC (1:Int)).2.1) (((AK kC kL ([(4:UInt8)])).2.1).drop 1)).2) != (460:Int))) rfl rfl (AA (AE (vO (((BS CZ ((AV kC (1:Int)).2.1) (((AK kC kL ([(4:UInt8)])).2.1).drop 1)).2) != (460:Int))) rfl (?_))))))))
  have hb7651:(((BS CZ ((AV kC (1:Int)).2.1) (((AK kC kL ([(4:UInt8)])).2.1).drop 1)).2) != (460:Int))=false:=(by decide +kernel)
  rw [hb7651]
  refine BE rfl (AE (vI kE) rfl (BE rfl (CV .i64 kE (0:Int) rfl rfl (AA (BX (vO (kE != (0:Int))) rfl rfl (AA (AE (vO (kE != (0:Int))) rfl (?_))))))))
  have hb7652:(kE != (0:Int))=false:=(by decide +kernel)
  rw [hb7652]
  refine BE rfl (AE (vI ((AM (⟨(0:Int),(0:Int),(0:Int),[],[]⟩:Circle) ([]) ([])).2)) rfl (BE rfl (CV .i64 ((AM (⟨(0:Int),(0:Int),(0:Int),[],[]⟩:Circle) ([]) ([])).2) (450:Int) rfl rfl (AA (BX (vO (((AM (⟨(0:Int),(0:Int),(0:Int),[],[]⟩:Circle) ([]) ([])).2) != (450:Int))) rfl rfl (AA (AE (vO (((AM (⟨(0:Int),(0:Int),(0:Int),[],[]⟩:Circle) ([]) ([])).2) != (450:Int))) rfl (?_))))))))
  have hb7653:(((AM (⟨(0:Int),(0:Int),(0:Int),[],[]⟩:Circle) ([]) ([])).2) != (450:Int))=false:=(by decide +kernel)
  rw [hb7653]
  refine BE rfl (AE (vI ((AK CZ ([]) ([])).2.2)) rfl (BE rfl (CV .i64 ((AK CZ ([]) ([])).2.2) (80:Int) rfl rfl (AA (BX (vO (((AK CZ ([]) ([])).2.2) != (80:Int))) rfl rfl (AA (AE (vO (((AK CZ ([]) ([])).2.2) != (80:Int))) rfl (?_))))))))
  have hb7654:(((AK CZ ([]) ([])).2.2) != (80:Int))=false:=(by decide +kernel)
  rw [hb7654]
  refine BE rfl (AE (vI ((BS kX (0:Int) ((AK kC kL ([(4:UInt8)])).2.1)).2)) rfl (BE rfl (CV .i64 ((BS kX (0:Int) ((AK kC kL ([(4:UInt8)])).2.1)).2) (1:Int) rfl rfl (AA (BX (vO (((BS kX (0:Int) ((AK kC kL ([(4:UInt8)])).2.1)).2) != (1:Int))) rfl rfl (AA (AE (vO (((BS kX (0:Int) ((AK kC kL ([(4:UInt8)])).2.1)).2) != (1:Int))) rfl (?_))))))))
  have hb7655:(((BS kX (0:Int) ((AK kC kL ([(4:UInt8)])).2.1)).2) != (1:Int))=false:=(by decide +kernel)
  rw [hb7655]
  refine BE rfl (AE (vI ((CA ([]) ([]) ([])).2)) rfl (BE rfl (CV .i64 ((CA ([]) ([]) ([])).2) (80:Int) rfl rfl (AA (BX (vO (((CA ([]) ([]) ([])).2) != (80:Int))) rfl rfl (AA (AE (vO (((CA ([]) ([]) ([])).2) != (80:Int))) rfl (?_))))))))
  have hb7656:(((CA ([]) ([]) ([])).2) != (80:Int))=false:=(by decide +kernel)
  rw [hb7656]
  refine BE rfl (AE (vI ((CA (kL.take 1) (((AK kC kL ([(4:UInt8)])).2.1).drop 2) ([(200:UInt8)])).2)) rfl (BE rfl (CV .i64 ((CA (kL.take 1) (((AK kC kL ([(4:UInt8)])).2.1).drop 2) ([(200:UInt8)])).2) (0:Int) rfl rfl (AA (BX (vO (((CA (kL.take 1) (((AK kC kL ([(4:UInt8)])).2.1).drop 2) ([(200:UInt8)])).2) != (0:Int))) rfl rfl (AA (AE (vO (((CA (kL.take 1) (((AK kC kL ([(4:UInt8)])).2.1).drop 2) ([(200:UInt8)])).2) != (0:Int))) rfl (?_))))))))
  have hb7657:(((CA (kL.take 1) (((AK kC kL ([(4:UInt8)])).2.1).drop 2) ([(200:UInt8)])).2) != (0:Int))=false:=(by decide +kernel)
  rw [hb7657]
  refine BE rfl (AE (vI ((BS kA ((AV kC (1:Int)).2.1) kL).2)) rfl (BE rfl (CV .i64 ((BS kA ((AV kC (1:Int)).2.1) kL).2) (460:Int) rfl rfl (AA (BX (vO (((BS kA ((AV kC (1:Int)).2.1) kL).2) != (460:Int))) rfl rfl (AA (AE (vO (((BS kA ((AV kC (1:Int)).2.1) kL).2) != (460:Int))) rfl (?_))))))))
  have hb7658:(((BS kA ((AV kC (1:Int)).2.1) kL).2) != (460:Int))=false:=(by decide +kernel)
  rw [hb7658]
  refine BE rfl (AE (vrc146_20) rfl (BE rfl (CG U32_ rfl hrdc146_20 (BE rfl (CV .i64 (kW.length:Int) (1:Int) rfl rfl (AA (BX (vO ((kW.length:Int) != (1:Int))) rfl rfl (AF (AC (?_))))))))))
  have hb7659:((kW.length:Int) != (1:Int))=false:=(by decide +kernel)
  rw [hb7659]
  refine AO false rfl rfl (fun h=>by cases h) (fun _=>?_)
  refine AU (AC (?_))
  refine AG (?_)
  refine AB kR (AA (AE (v7272) rfl (AA (o_bytes U23_ U5_ U9_ rfl hl7273 (AA (o_eqlS ((BS CZ ((AV kC (1:Int)).2.1) (kL.drop 1)).1) ([7]:List UInt8) rfl rfl (AA (AE (vO (((BS CZ ((AV kC (1:Int)).2.1) (kL.drop 1)).1) == ([7]:List UInt8))) rfl (?_)))))))))
  have hb7660:(((BS CZ ((AV kC (1:Int)).2.1) (kL.drop 1)).1) == ([7]:List UInt8))=true:=(by decide +kernel)
  rw [hb7660]
  refine BE rfl (BD 0 JG rfl (BE rfl (BI U3_ rfl (vI kX.epoch) rfl bx7145 rfl (BE rfl (EI .i64 kX.epoch (1:Int) rfl rfl (AA (BK (vO (kX.epoch == (1:Int))) rfl rfl (AA (AE (vO (kX.epoch == (1:Int))) rfl (?_))))))))))
  have hb7661:(kX.epoch == (1:Int))=true:=(by decide +kernel)
  rw [hb7661]
  refine BE rfl (AE (x7131) rfl (BE rfl (DI U32_ DM .i64 (0:Int) 0 rfl rfl rfl hl7132 (by decide +kernel) fun a7662 hp7663=>(BE rfl (BM 0 IP ((((AK kC kL ([(4:UInt8)])).2.1)[0]!).epoch) rfl hp7663 (fun _ _ _ h=>MH h) fun a7664 hp7665=>(BE rfl (CE U3_ rfl rfl hp7665 (BE rfl (EI .i64 ((((AK kC kL ([(4:UInt8)])).2.1)[0]!).epoch) (1:Int) rfl rfl (AA (BK (vO (((((AK kC kL ([(4:UInt8)])).2.1)[0]!).epoch) == (1:Int))) rfl rfl (AA (AE (vO (((((AK kC kL ([(4:UInt8)])).2.1)[0]!).epoch) == (1:Int))) rfl (?_))))))))))))))
  have hb7666:(((((AK kC kL ([(4:UInt8)])).2.1)[0]!).epoch) == (1:Int))=true:=(by decide +kernel)
  rw [hb7666]
  refine BE rfl (BD 0 JG rfl (BE rfl (BI U3_ rfl (vI kZ.epoch) rfl hbn_bnc146_19 rfl (BE rfl (EI .i64 kZ.epoch (1:Int) rfl rfl (AA (BK (vO (kZ.epoch == (1:Int))) rfl rfl (AA (AE (vO (kZ.epoch == (1:Int))) rfl (?_))))))))))
  have hb7667:(kZ.epoch == (1:Int))=true:=(by decide +kernel)
  rw [hb7667]
  refine BE rfl (BD 1 NI rfl (BE rfl (BI U3_ rfl (vI kZ.threshold) rfl hbn_bnc146_19 rfl (BE rfl (EI .i64 kZ.threshold (1:Int) rfl rfl (AA (BK (vO (kZ.threshold == (1:Int))) rfl rfl (AA (AE (vO (kZ.threshold == (1:Int))) rfl (?_))))))))))
  have hb7668:(kZ.threshold == (1:Int))=true:=(by decide +kernel)
  rw [hb7668]
  refine BE rfl (AE (vrc146_20) rfl (BE rfl (DI U32_ DM .i64 (0:Int) 0 rfl rfl rfl hrdc146_20 (by decide +kernel) fun a7669 hp7670=>(BE rfl (BM 4 GM ((kW[0]!).data) rfl hp7670 (fun _ _ _ h=>FL h) fun a7671 hp7672=>(BE rfl (BW U23_ rfl rfl hp7672 fun v7673 hl7674=>(?_))))))))
  have:=hl7674.len_le
  refine BE rfl (o_bytes U23_ U5_ U9_ rfl hl7674 (BE rfl (o_eqlS ((kW[0]!).data) ([7]:List UInt8) rfl rfl (AA (BK (vO (((kW[0]!).data) == ([7]:List UInt8))) rfl rfl (AA (AE (vO (((kW[0]!).data) == ([7]:List UInt8))) rfl (?_))))))))
  have hb7675:(((kW[0]!).data) == ([7]:List UInt8))=true:=(by decide +kernel)
  rw [hb7675]
  refine BE rfl (AE (v7647) rfl (BE rfl (CG U23_ rfl hl7648 (BE rfl (EI .i64 (((CA (kL.take 1) (((AK kC kL ([(4:UInt8)])).2.1).drop 2) ([(200:UInt8)])).1).length:Int) (2:Int) rfl rfl (AA (BK (vO ((((CA (kL.take 1) (((AK kC kL ([(4:UInt8)])).2.1).drop 2) ([(200:UInt8)])).1).length:Int) == (2:Int))) rfl rfl (AA (AD (vO ((((CA (kL.take 1) (((AK kC kL ([(4:UInt8)])).2.1).drop 2) ([(200:UInt8)])).1).length:Int) == (2:Int))) rfl (AF (AC (?_))))))))))))
  refine AP (AZ rfl (CS rfl rfl rfl) (?_))
  have e:true=((((CA (kL.take 1) (((AK kC kL ([(4:UInt8)])).2.1).drop 2) ([(200:UInt8)])).1).length:Int) == (2:Int)):=by rfl
  exact ⟨_,rfl,s7643.keep,(by exact congrArg vO e.symm)⟩
open Go.Fw Go.RowKit
set_option maxHeartbeats 4000000 in
set_option maxRecDepth 100000 in
theorem c_few {O:List Nat} (c_cs:List Value) (c:Circle) (w:World) (h_c:Enc.circle.rd w O c_cs c) (hO:∀ b∈O,b<w.heap.size):CF Try.prog 61 [.agg c_cs.toArray] w (fun v _=>v = .bool (MU c)):= by
 have h_c:Enc.circle.rd w ([]++O) c_cs c:=h_c
 have s0:St w O w []:=St.start hO
 refine BQ 39 Try.func61 rfl rfl oT (fun F0=>?_)
 refine AG (?_)
 refine AB kR (AA (DO (E:=Enc.circle) (vA c_cs.toArray) (c_cs) c rfl rfl h_c s0 fun a5016 w5017 s5018 m5019 k5020 hp5021=>(?_)))
 refine AA (AD (vO false) rfl (AF (AC (?_))))
 refine AG (?_)
 refine AG (?_)
 refine AB kR (AA (AD (vI 0) rfl (AF (AC (?_)))))
 refine BR (?_)
 refine DH (fun mI FI wI=>∃ (k:Nat),k≤c.recs.length∧MU c=FG (fun k=>if UB c k then some false else none) (decide ((c.guardians.length:Int)≤12) && decide ((c.recs.length:Int)≤20)) k (c.recs.length - k)∧mI=c.recs.length - k∧(∃ F1,FI=FT F1 [(1,vP (some a5016)),(3,vI ((k:Nat):Int)),(39,undef)])∧w5017=wI) (c.recs.length - (0)) ?_ ?_
 ·exact ⟨(0),oM,rfl,rfl,⟨_,AX _ ⟨rfl,(by rfl),rfl,trivial⟩⟩,rfl⟩
 ·rintro ml0 F wl0 ⟨k,hr0_0,hr0_1,hm0,⟨Fl0,rfl⟩,rfl⟩
  refine AG (?_)
  refine AG (?_)
  refine AB kR (AA (AE (vI ((k:Nat):Int)) rfl (AA (BM 4 DK (c.recs) rfl hp5021 (fun _ _ _ h=>CJ h) fun a5022 hp5023=>(AA (BW U26_ rfl rfl hp5023 fun v5024 hl5025=>(?_)))))))
  have:=hl5025.len_le
  refine AA (CG U26_ rfl hl5025 (AA (DW .i64 ((k:Nat):Int) (c.recs.length:Int) rfl rfl (AF (AC (?_))))))
  refine AO (decide (((k:Nat):Int)<(c.recs.length:Int))) rfl rfl (fun hc5026=>?_) (fun hc5026=>?_)
  ·have hp5027:((k:Nat):Int)<(c.recs.length:Int):=by simpa using hc5026
   refine AU (AC (?_))
   refine AG (?_)
   refine BR (?_)
   refine AG (?_)
   refine AB kR (AA (BM 4 DK (c.recs) rfl hp5021 (fun _ _ _ h=>CJ h) fun a5028 hp5029=>(AA (BW U26_ rfl rfl hp5029 fun v5030 hl5031=>(?_)))))
   have:=hl5031.len_le
   refine AA (AE (vI ((k:Nat):Int)) rfl (AA (DI U26_ GA .i64 ((k:Nat):Int) k rfl rfl rfl hl5031 oM fun a5032 hp5033=>(AA (BM 3 PB ((c.recs[k]!).approved) rfl hp5033 (fun _ _ _ h=>JK h) fun a5034 hp5035=>(AA (BW U22_ rfl rfl hp5035 fun v5036 hl5037=>(?_))))))))
   have:=hl5037.len_le
   refine AA (CG U22_ rfl hl5037 (AA (FW .i64 (((c.recs[k]!).approved).length:Int) (20:Int) rfl rfl (AA (AE (vO (decide ((20:Int)<(((c.recs[k]!).approved).length:Int)))) rfl (?_))))))
   cases hb5038:(decide ((20:Int)<(((c.recs[k]!).approved).length:Int)))
   ·have hp5039:(((c.recs[k]!).approved).length:Int)≤(20:Int):=by simpa using hb5038
    refine BE rfl (BM 4 DK (c.recs) rfl hp5021 (fun _ _ _ h=>CJ h) fun a5040 hp5041=>(BE rfl (BW U26_ rfl rfl hp5041 fun v5042 hl5043=>(?_))))
    have:=hl5043.len_le
    refine BE rfl (AE (vI ((k:Nat):Int)) rfl (BE rfl (DI U26_ GA .i64 ((k:Nat):Int) k rfl rfl rfl hl5043 oM fun a5044 hp5045=>(BE rfl (BM 4 ST ((c.recs[k]!).vetoed) rfl hp5045 (fun _ _ _ h=>GF h) fun a5046 hp5047=>(BE rfl (BW U22_ rfl rfl hp5047 fun v5048 hl5049=>(?_))))))))
    have:=hl5049.len_le
    refine BE rfl (CG U22_ rfl hl5049 (BE rfl (FW .i64 (((c.recs[k]!).vetoed).length:Int) (20:Int) rfl rfl (AA (BX (vO (decide ((20:Int)<(((c.recs[k]!).vetoed).length:Int)))) rfl rfl (AF (AC (?_))))))))
    refine AO (decide ((20:Int)<(((c.recs[k]!).vetoed).length:Int))) rfl rfl (fun hc5050=>?_) (fun hc5050=>?_)
    ·have hp5051:(20:Int)<(((c.recs[k]!).vetoed).length:Int):=by simpa using hc5050
     refine AG (?_)
     refine AB kR (AA (AD (vO false) rfl (AF (AC (?_)))))
     refine AP (CB (AR (AR (CB (AR (AZ rfl (CS rfl rfl rfl) (?_)))))))
     have e:(MU c)=false:=by (rw [hr0_1];exact DQ oM (by ((repeat ((refine (if_pos ?_).trans ?_;solve|(simp only [UB,dbs];(repeat (omega))))));rfl)))
     exact ⟨_,rfl,s5018.keep,(by exact congrArg vO e.symm)⟩
    ·have hp5052:(((c.recs[k]!).vetoed).length:Int)≤(20:Int):=by simpa using hc5050
     refine AU (CI (AC (?_)))
     refine AB kR (AA (AE (vI ((k:Nat):Int)) rfl (AA (DC .i64 ((k:Nat):Int) (1:Int) (((k+1:Nat):Int)) rfl rfl (FO oM oM) (AA (AD (vI ((k+1:Nat):Int)) rfl (AF (AC (?_)))))))))
     exact ⟨_,oM,(k+1),oM,(hr0_1.trans (GJ oM (by ((repeat ((refine (if_neg ?_).trans ?_;solve|(simp only [UB,dbs];(repeat (omega))))));rfl)))),rfl,⟨_,AX _ ⟨rfl,(by rfl),rfl,trivial⟩⟩,rfl⟩
   ·have hp5053:(20:Int)<(((c.recs[k]!).approved).length:Int):=by simpa using hb5038
    refine AT rfl (AT rfl (AT rfl (AT rfl (AT rfl (AT rfl (AT rfl (AT rfl (AA (BK (vO true) rfl rfl (AF (AC (?_))))))))))))
    refine AO true rfl rfl (fun _=>?_) (fun h=>by cases h)
    refine AG (?_)
    refine AB kR (AA (AD (vO false) rfl (AF (AC (?_)))))
    refine AP (CB (AR (AR (CB (AR (AZ rfl (CS rfl rfl rfl) (?_)))))))
    have e:(MU c)=false:=by (rw [hr0_1];exact DQ oM (by ((repeat ((refine (if_pos ?_).trans ?_;solve|(simp only [UB,dbs];(repeat (omega))))));rfl)))
    exact ⟨_,rfl,s5018.keep,(by exact congrArg vO e.symm)⟩
  ·have hp5054:(c.recs.length:Int)≤((k:Nat):Int):=by simpa using hc5026
   refine DE (CC (CC (CY (AC (?_)))))
   refine AG (?_)
   refine AB kR (AA (BM 3 JW (c.guardians) rfl hp5021 (fun _ _ _ h=>EQ h) fun a5055 hp5056=>(AA (BW U22_ rfl rfl hp5056 fun v5057 hl5058=>(?_)))))
   have:=hl5058.len_le
   refine AA (CG U22_ rfl hl5058 (AA (o_leq .i64 (c.guardians.length:Int) (12:Int) rfl rfl (AA (AE (vO (decide ((c.guardians.length:Int)≤(12:Int)))) rfl (?_))))))
   cases hb5059:(decide ((c.guardians.length:Int)≤(12:Int)))
   ·have hp5060:(12:Int)<(c.guardians.length:Int):=by simpa using hb5059
    refine AT rfl (AT rfl (AT rfl (AT rfl (AA (BX (vO false) rfl rfl (AA (AD (vO false) rfl (AF (AC (?_))))))))))
    refine AP (AZ rfl (CS rfl rfl rfl) (?_))
    have e:(MU c)=false:=by (rw [hr0_1,HD oM];simp [*])
    exact ⟨_,rfl,s5018.keep,(by exact congrArg vO e.symm)⟩
   ·have hp5061:(c.guardians.length:Int)≤(12:Int):=by simpa using hb5059
    refine BE rfl (BM 4 DK (c.recs) rfl hp5021 (fun _ _ _ h=>CJ h) fun a5062 hp5063=>(BE rfl (BW U26_ rfl rfl hp5063 fun v5064 hl5065=>(?_))))
    have:=hl5065.len_le
    refine BE rfl (CG U26_ rfl hl5065 (BE rfl (o_leq .i64 (c.recs.length:Int) (20:Int) rfl rfl (AA (BK (vO (decide ((c.recs.length:Int)≤(20:Int)))) rfl rfl (AA (AD (vO (decide ((c.recs.length:Int)≤(20:Int)))) rfl (AF (AC (?_))))))))))
    refine AP (AZ rfl (CS rfl rfl rfl) (?_))
    have e:(MU c)=(decide ((c.recs.length:Int)≤(20:Int))):=by (rw [hr0_1,HD oM];simp [*])
    exact ⟨_,rfl,s5018.keep,(by exact congrArg vO e.symm)⟩
open Go.Fw Go.RowKit
set_option maxHeartbeats 4000000 in
set_option maxRecDepth 100000 in
theorem c_few8 {O:List Nat} (l_v:Value) (l:List Share) (w:World) (h_l:BG Enc.share w O l_v l) (hO:∀ b∈O,b<w.heap.size):CF Try.prog 21 [l_v] w (fun v _=>v = .bool (OZ l)):= by
 have lim_l:=h_l.len_le
 have h_l:BG Enc.share w ([]++O) l_v l:=h_l
 have s0:St w O w []:=St.start hO
 refine BQ 20 Try.func21 rfl rfl oT (fun F0=>?_)
 refine AG (?_)
 refine AB kR (AA (AD (vO false) rfl (AF (AC (?_)))))
 refine AG (?_)
 refine AG (?_)
 refine AB kR (AA (AD (vI 0) rfl (AF (AC (?_)))))
 refine BR (?_)
 refine DH (fun mI FI wI=>∃ (k:Nat),k≤l.length∧OZ l=FG (fun k=>if 70<(l[k]!.data.length:Int) then some false else none) (decide ((l.length:Int)≤10)) k (l.length - k)∧mI=l.length - k∧(∃ F1,FI=FT F1 [(0,l_v),(3,vI ((k:Nat):Int)),(20,undef)])∧w=wI) (l.length - (0)) ?_ ?_
 ·exact ⟨(0),oM,rfl,rfl,⟨_,AX _ ⟨rfl,(by rfl),rfl,trivial⟩⟩,rfl⟩
 ·rintro ml0 F wl0 ⟨k,hr0_0,hr0_1,hm0,⟨Fl0,rfl⟩,rfl⟩
  refine AG (?_)
  refine AG (?_)
  refine AB kR (AA (AE (vI ((k:Nat):Int)) rfl (AA (AE (l_v) rfl (AA (CG U32_ rfl h_l (AA (DW .i64 ((k:Nat):Int) (l.length:Int) rfl rfl (AF (AC (?_)))))))))))
  refine AO (decide (((k:Nat):Int)<(l.length:Int))) rfl rfl (fun hc1271=>?_) (fun hc1271=>?_)
  ·have hp1272:((k:Nat):Int)<(l.length:Int):=by simpa using hc1271
   refine AU (AC (?_))
   refine AG (?_)
   refine BR (?_)
   refine AG (?_)
   refine AB kR (AA (AE (l_v) rfl (AA (AE (vI ((k:Nat):Int)) rfl (AA (DI U32_ DM .i64 ((k:Nat):Int) k rfl rfl rfl h_l oM fun a1273 hp1274=>(AA (BM 4 GM ((l[k]!).data) rfl hp1274 (fun _ _ _ h=>FL h) fun a1275 hp1276=>(AA (BW U23_ rfl rfl hp1276 fun v1277 hl1278=>(?_)))))))))))
   have:=hl1278.len_le
   refine AA (CG U23_ rfl hl1278 (AA (FW .i64 (((l[k]!).data).length:Int) (70:Int) rfl rfl (AF (AC (?_))))))
   refine AO (decide ((70:Int)<(((l[k]!).data).length:Int))) rfl rfl (fun hc1279=>?_) (fun hc1279=>?_)
   ·have hp1280:(70:Int)<(((l[k]!).data).length:Int):=by simpa using hc1279
    refine AG (?_)
    refine AB kR (AA (AD (vO false) rfl (AF (AC (?_)))))
    refine AP (CB (AR (AR (CB (AR (AZ rfl (CS rfl rfl rfl) (?_)))))))
    have e:(OZ l)=false:=by (rw [hr0_1];exact DQ oM (by ((repeat ((refine (if_pos ?_).trans ?_;omega)));rfl)))
    exact ⟨_,rfl,s0.keep,(by exact congrArg vO e.symm)⟩
   ·have hp1281:(((l[k]!).data).length:Int)≤(70:Int):=by simpa using hc1279
    refine AU (CI (AC (?_)))
    refine AB kR (AA (AE (vI ((k:Nat):Int)) rfl (AA (DC .i64 ((k:Nat):Int) (1:Int) (((k+1:Nat):Int)) rfl rfl (FO oM oM) (AA (AD (vI ((k+1:Nat):Int)) rfl (AF (AC (?_)))))))))
    exact ⟨_,oM,(k+1),oM,(hr0_1.trans (GJ oM (by ((repeat ((refine (if_neg ?_).trans ?_;omega)));rfl)))),rfl,⟨_,AX _ ⟨rfl,(by rfl),rfl,trivial⟩⟩,rfl⟩
  ·have hp1282:(l.length:Int)≤((k:Nat):Int):=by simpa using hc1271
   refine DE (CC (CC (CY (AC (?_)))))
   refine AG (?_)
   refine AB kR (AA (AE (l_v) rfl (AA (CG U32_ rfl h_l (AA (o_leq .i64 (l.length:Int) (10:Int) rfl rfl (AA (AD (vO (decide ((l.length:Int)≤(10:Int)))) rfl (AF (AC (?_)))))))))))
   refine AP (AZ rfl (CS rfl rfl rfl) (?_))
   have e:(OZ l)=(decide ((l.length:Int)≤(10:Int))):=by (rw [hr0_1];exact HD oM)
   exact ⟨_,rfl,s0.keep,(by exact congrArg vO e.symm)⟩
open Go.Fw Go.RowKit
set_option maxHeartbeats 4000000 in
set_option maxRecDepth 100000 in
theorem c_done {O:List Nat} (c_cs:List Value) (c:Circle) (w:World) (h_c:Enc.circle.rd w O c_cs c) (hO:∀ b∈O,b<w.heap.size):CF Try.prog 27 [.agg c_cs.toArray] w (fun v w'=>∃ (x0:List Value),v = .tuple #[.agg x0.toArray,vI ((CL c).2.1), .bool ((CL c).2.2)]∧Enc.circle.rd w' (O) x0 ((CL c).1)):= by
 have h_c:Enc.circle.rd w ([]++O) c_cs c:=h_c
 have s0:St w O w []:=St.start hO
 refine BQ 80 Try.func27 rfl rfl oT (fun F0=>?_)
 refine AG (?_)
 refine AB kR (AA (DO (E:=Enc.circle) (vA c_cs.toArray) (c_cs) c rfl rfl h_c s0 fun a7676 w7677 s7678 m7679 k7680 hp7681=>(?_)))
 refine AA (CX [vI 0,vI 0,vI 0,nS,nS] II rfl s7678 fun b7682 w7683 e7688 s7684 m7685 k7686 bx7687=>(?_))
 clear e7688
 have hp7681:=hp7681.mv m7685
 refine AA (AD (vI 0) rfl (AA (AD (vO false) rfl (AF (AC (?_))))))
 refine AG (?_)
 refine AG (?_)
 refine AB kR (AA (BM 4 DK (c.recs) rfl hp7681 (fun _ _ _ h=>CJ h) fun a7689 hp7690=>(AA (BW U26_ rfl rfl hp7690 fun v7691 hl7692=>(?_)))))
 have:=hl7692.len_le
 refine AA (CG U26_ rfl hl7692 (AA (AD (vI (c.recs.length:Int)) rfl (AF (AC (?_))))))
 refine AG (?_)
 refine AB kR (AA (AE (vI (c.recs.length:Int)) rfl (AA (FW .i64 (c.recs.length:Int) (0:Int) rfl rfl (AA (AE (vO (decide ((0:Int)<(c.recs.length:Int)))) rfl (?_)))))))
 cases hb7693:(decide ((0:Int)<(c.recs.length:Int)))
 ·have hp7694:(c.recs.length:Int)≤(0:Int):=by simpa using hb7693
  refine AT rfl (AT rfl (AT rfl (AT rfl (AT rfl (AT rfl (AT rfl (AT rfl (AA (BX (vO false) rfl rfl (AF (AC (?_))))))))))))
  refine AO false rfl rfl (fun h=>by cases h) (fun _=>?_)
  refine AU (AC (?_))
  refine AG (?_)
  refine AB kR (AA (AD (vI 0) rfl (AF (AC (?_)))))
  refine UO (fun FI wI=>GH c=false∧True∧(∃ F1,FI=FT F1 [(1,vP (some a7676)),(2,vP (some ⟨b7682,0,none⟩)),(6,vI (AQ c)),(80,undef)])∧w7683=wI) ?_ ?_
  ·refine AG (?_)
   refine AB kR (AA (BM 4 DK (c.recs) rfl hp7681 (fun _ _ _ h=>CJ h) fun a7695 hp7696=>(AA (BW U26_ rfl rfl hp7696 fun v7697 hl7698=>(?_)))))
   have:=hl7698.len_le
   refine AA (CG U26_ rfl hl7698 (AA (AD (vI (c.recs.length:Int)) rfl (AF (AC (?_))))))
   refine AG (?_)
   refine AB kR (AA (AE (vI (c.recs.length:Int)) rfl (AA (FW .i64 (c.recs.length:Int) (0:Int) rfl rfl (AF (AC (?_)))))))
   have hb7699:(decide ((0:Int)<(c.recs.length:Int)))=false:=hb7693
   rw [hb7699]
   refine AO false rfl rfl (fun h=>by cases h) (fun _=>?_)
   refine AU (AC (?_))
   exact ⟨(last_n (by exact .inl oM)),trivial,⟨_,AX _ ⟨rfl,rfl,(by exact congrArg (Value.int _) (by (exact (if_neg oM).symm))),rfl,trivial⟩⟩,rfl⟩
  ·rintro F wlc40 ⟨hrc40_0,hmc40,⟨Flc40,rfl⟩,rfl⟩
   refine AG (?_)
   refine AB kR (AA (CR U28_ rfl BL rfl hp7681 fun cs7700 hs7701=>(AA (AE (vI (AQ c)) rfl (AA (BB (vs:=[vA cs7700.toArray,vI (AQ c)]) SU (c_ask (O:=(b7682 :: [])++O) cs7700 c (AQ c) w7683 hs7701 s7684.lt) rfl s7684 fun v7702 w7703 s7704 m7705 k7706 r7707=>(?_)))))))
   obtain ⟨cs7708,rfl,hs7709⟩:=r7707
   have hp7681:=hp7681.mv m7705
   have bx7687:=bx7687.keep k7706 (by simp)
   refine AA (AE (vT #[vA cs7708.toArray,vI ((AV c (AQ c)).2.1),vI ((AV c (AQ c)).2.2)]) rfl (AA (AN (vA cs7708.toArray) rfl rfl (AA (AN (vI ((AV c (AQ c)).2.1)) rfl rfl (AA (AN (vI ((AV c (AQ c)).2.2)) rfl rfl (?_))))))))
   obtain ⟨d7715,d7717,rfl,hd7716,hd7718⟩:=hs7709
   have:=hd7716.len_le
   have:=hd7718.len_le
   refine BY (BC (vs:=[vI (((AV c (AQ c)).1).epoch),vI (((AV c (AQ c)).1).threshold),vI (((AV c (AQ c)).1).wait),d7715,d7717]) (.agg #[vI (((AV c (AQ c)).1).epoch),vI (((AV c (AQ c)).1).threshold),vI (((AV c (AQ c)).1).wait),d7715,d7717]) rfl rfl rfl BL (fun u hu=>by simp only [List.mem_cons,List.not_mem_nil,or_false] at hu;rcases hu with rfl|rfl|rfl|rfl|rfl <;> first|rfl|exact hd7716.oneCell|exact hd7718.oneCell) (by repeat (constructor)) bx7687 oT s7704 fun w7710 s7711 m7712 k7713 bx7714=>(?_))
   have hp7681:=hp7681.mv m7712
   have hd7716:=hd7716.mv m7712
   have hd7718:=hd7718.mv m7712
   refine AA (AD (vI ((AV c (AQ c)).2.1)) rfl (AA (AD (vI ((AV c (AQ c)).2.2)) rfl (AF (AC (?_))))))
   refine AG (?_)
   refine AG (?_)
   refine AB kR (AA (BM 3 JW (c.guardians) rfl hp7681 (fun _ _ _ h=>EQ h) fun a7719 hp7720=>(AA (BW U22_ rfl rfl hp7720 fun v7721 hl7722=>(?_)))))
   have:=hl7722.len_le
   refine AA (CG U22_ rfl hl7722 (AA (AE (vI 0) rfl (AF (AC (?_))))))
   refine BR (?_)
   refine DH (fun mI FI wI=>∃ (k:Nat) (vr0_b7682_3:Value) (vr0_b7682_4:Value) (B:List Nat),k≤c.guardians.length∧mI=c.guardians.length - k∧(∃ F1,FI=FT F1 [(1,vP (some a7676)),(2,vP (some ⟨b7682,0,none⟩)),(3,vI ((AV c (AQ c)).2.1)),(6,vI (AQ c)),(8,vI ((AI c k).2)),(47,v7721),(48,vI (c.guardians.length:Int)),(49,vI ((k:Nat):Int)),(80,undef)])∧St w O wI B∧BG Enc.int wI (B++O) vr0_b7682_3 ((AI c k).1.guardians)∧BG Enc.recovery wI (B++O) vr0_b7682_4 ((AI c k).1.recs)∧PT Enc.circle wI (B++O) (.pointer (some a7676)) (c)∧BG Enc.int wI (B++O) (v7721) (c.guardians)∧GQ wI b7682 28 [vI ((AI c k).1.epoch),vI ((AI c k).1.threshold),vI ((AI c k).1.wait),vr0_b7682_3,vr0_b7682_4]∧b7682∈B) (c.guardians.length - (0)) ?_ ?_
   ·exact ⟨(0),d7715,d7717,(b7682 :: []),oM,rfl,⟨_,AX _ ⟨rfl,rfl,rfl,rfl,(by rfl),rfl,rfl,(by rfl),rfl,trivial⟩⟩,s7711,(by rw [show (AI c (0)).1.guardians=((AV c (AQ c)).1).guardians from rfl];exact hd7716),(by rw [show (AI c (0)).1.recs=((AV c (AQ c)).1).recs from rfl];exact hd7718),hp7681,hl7722,(by rw [show ([vI ((AI c (0)).1.epoch),vI ((AI c (0)).1.threshold),vI ((AI c (0)).1.wait),d7715,d7717]:List Value)=[vI (((AV c (AQ c)).1).epoch),vI (((AV c (AQ c)).1).threshold),vI (((AV c (AQ c)).1).wait),d7715,d7717] from rfl];exact bx7714),(by (repeat (exact List.mem_cons_self)))⟩
   ·intro ml0 F wl0 hI
    clear hp7681 hl7722
    obtain ⟨k,vr0_b7682_3,vr0_b7682_4,Bl0,hr0_0,hm0,⟨Fl0,rfl⟩,sl0,hrd0_b7682_3,hrd0_b7682_4,hp7681,hl7722,hbs_0_b7682,hin_b7682⟩:=hI
    have:=hrd0_b7682_3.len_le
    have:=hrd0_b7682_4.len_le
    refine AG (?_)
    refine AB kR (AA (DW .i64 ((k:Nat):Int) (c.guardians.length:Int) rfl rfl (AF (AC (?_)))))
    refine AG (?_)
    refine AO (decide (((k:Nat):Int)<(c.guardians.length:Int))) rfl rfl (fun hc7723=>?_) (fun hc7723=>?_)
    ·have hp7724:((k:Nat):Int)<(c.guardians.length:Int):=by simpa using hc7723
     refine AU (AC (?_))
     refine AG (?_)
     refine BR (?_)
     refine AG (?_)
     refine AB kR (AA (DI U22_ MW .i64 ((k:Nat):Int) k rfl rfl rfl hl7722 oM fun a7725 hp7726=>(AA (CE U3_ rfl rfl hp7726 (AA (AD (vI (c.guardians[k]!)) rfl (AF (AC (?_)))))))))
     refine AG (?_)
     refine AB kR (AA (AE (vI ((AI c k).2)) rfl (AA (EI .i64 ((AI c k).2) (0:Int) rfl rfl (AF (AC (?_)))))))
     refine AO (((AI c k).2) == (0:Int)) rfl rfl (fun hc7727=>?_) (fun hc7727=>?_)
     ·have hp7728:(AI c k).2=(0:Int):=by simpa using hc7727
      refine AB kR (AA (BN (vs:=[vI ((AI c k).1.epoch),vI ((AI c k).1.threshold),vI ((AI c k).1.wait),vr0_b7682_3,vr0_b7682_4]) U28_ rfl BL rfl hbs_0_b7682 rfl (AA (AE (vI ((AV c (AQ c)).2.1)) rfl (AA (AE (vI (c.guardians[k]!)) rfl (AA (BB (vs:=[vA #[vI ((AI c k).1.epoch),vI ((AI c k).1.threshold),vI ((AI c k).1.wait),vr0_b7682_3,vr0_b7682_4],vI ((AV c (AQ c)).2.1),vI (c.guardians[k]!)]) PZ (OK (O:=Bl0++O) [vI ((AI c k).1.epoch),vI ((AI c k).1.threshold),vI ((AI c k).1.wait),vr0_b7682_3,vr0_b7682_4] ((AI c k).1) ((AV c (AQ c)).2.1) (c.guardians[k]!) wl0 ⟨_,_,rfl,hrd0_b7682_3,hrd0_b7682_4⟩ sl0.lt) rfl sl0 fun v7729 w7730 s7731 m7732 k7733 r7734=>(?_)))))))))
      obtain ⟨cs7735,rfl,hs7736⟩:=r7734
      have hp7681:=hp7681.mv m7732
      have hl7722:=hl7722.mv m7732
      have hbs_0_b7682:=hbs_0_b7682.keep k7733 (by simp)
      refine AA (AE (vT #[vA cs7735.toArray,vI ((BO ((AI c k).1) ((AV c (AQ c)).2.1) (BA ((AI c k).1) (c.guardians[k]!))).2)]) rfl (AA (AN (vA cs7735.toArray) rfl rfl (AA (AN (vI ((BO ((AI c k).1) ((AV c (AQ c)).2.1) (BA ((AI c k).1) (c.guardians[k]!))).2)) rfl rfl (?_))))))
      obtain ⟨d7742,d7744,rfl,hd7743,hd7745⟩:=hs7736
      have:=hd7743.len_le
      have:=hd7745.len_le
      refine BY (BC (vs:=[vI (((BO ((AI c k).1) ((AV c (AQ c)).2.1) (BA ((AI c k).1) (c.guardians[k]!))).1).epoch),vI (((BO ((AI c k).1) ((AV c (AQ c)).2.1) (BA ((AI c k).1) (c.guardians[k]!))).1).threshold),vI (((BO ((AI c k).1) ((AV c (AQ c)).2.1) (BA ((AI c k).1) (c.guardians[k]!))).1).wait),d7742,d7744]) (.agg #[vI (((BO ((AI c k).1) ((AV c (AQ c)).2.1) (BA ((AI c k).1) (c.guardians[k]!))).1).epoch),vI (((BO ((AI c k).1) ((AV c (AQ c)).2.1) (BA ((AI c k).1) (c.guardians[k]!))).1).threshold),vI (((BO ((AI c k).1) ((AV c (AQ c)).2.1) (BA ((AI c k).1) (c.guardians[k]!))).1).wait),d7742,d7744]) rfl rfl rfl BL (fun u hu=>by simp only [List.mem_cons,List.not_mem_nil,or_false] at hu;rcases hu with rfl|rfl|rfl|rfl|rfl <;> first|rfl|exact hd7743.oneCell|exact hd7745.oneCell) (by repeat (assumption)) hbs_0_b7682 oT s7731 fun w7737 s7738 m7739 k7740 bx7741=>(?_))
      have hp7681:=hp7681.mv m7739
      have hl7722:=hl7722.mv m7739
      have hd7743:=hd7743.mv m7739
      have hd7745:=hd7745.mv m7739
      refine AA (AD (vI ((BO ((AI c k).1) ((AV c (AQ c)).2.1) (BA ((AI c k).1) (c.guardians[k]!))).2)) rfl (AF (CI (AC (?_)))))
      refine AB kR (AA (DC .i64 ((k:Nat):Int) (1:Int) (((k+1:Nat):Int)) rfl rfl (FO oM oM) (AA (AE (vI ((k+1:Nat):Int)) rfl (AF (AC (?_)))))))
      exact ⟨_,oM,(k+1),d7742,d7744,Bl0,oM,rfl,⟨_,AX _ ⟨rfl,rfl,rfl,rfl,(by exact congrArg (Value.int _) (by ((rw [PQ aS];done)))),rfl,rfl,(by rfl),rfl,trivial⟩⟩,s7738,(by rw [show (AI c (k+1)).1.guardians=((BO ((AI c k).1) ((AV c (AQ c)).2.1) (BA ((AI c k).1) (c.guardians[k]!))).1).guardians from by (rw [PQ aS];done)];exact hd7743),(by rw [show (AI c (k+1)).1.recs=((BO ((AI c k).1) ((AV c (AQ c)).2.1) (BA ((AI c k).1) (c.guardians[k]!))).1).recs from by (rw [PQ aS];done)];exact hd7745),hp7681,hl7722,(by rw [show ([vI ((AI c (k+1)).1.epoch),vI ((AI c (k+1)).1.threshold),vI ((AI c (k+1)).1.wait),d7742,d7744]:List Value)=[vI (((BO ((AI c k).1) ((AV c (AQ c)).2.1) (BA ((AI c k).1) (c.guardians[k]!))).1).epoch),vI (((BO ((AI c k).1) ((AV c (AQ c)).2.1) (BA ((AI c k).1) (c.guardians[k]!))).1).threshold),vI (((BO ((AI c k).1) ((AV c (AQ c)).2.1) (BA ((AI c k).1) (c.guardians[k]!))).1).wait),d7742,d7744] from by (rw [PQ aS];done)];exact bx7741),aS⟩
     ·have hp7746:(AI c k).2≠(0:Int):=by simpa using hc7727
      refine AU (CI (AC (?_)))
      refine AB kR (AA (DC .i64 ((k:Nat):Int) (1:Int) (((k+1:Nat):Int)) rfl rfl (FO oM oM) (AA (AE (vI ((k+1:Nat):Int)) rfl (AF (AC (?_)))))))
      exact ⟨_,oM,(k+1),vr0_b7682_3,vr0_b7682_4,Bl0,oM,rfl,⟨_,AX _ ⟨rfl,rfl,rfl,rfl,(by exact congrArg (Value.int _) (by ((rw [PP aS];done)))),rfl,rfl,(by rfl),rfl,trivial⟩⟩,sl0,(by rw [show (AI c (k+1)).1.guardians=(AI c k).1.guardians from by (rw [PP aS];done)];exact hrd0_b7682_3),(by rw [show (AI c (k+1)).1.recs=(AI c k).1.recs from by (rw [PP aS];done)];exact hrd0_b7682_4),hp7681,hl7722,(by rw [show ([vI ((AI c (k+1)).1.epoch),vI ((AI c (k+1)).1.threshold),vI ((AI c (k+1)).1.wait),vr0_b7682_3,vr0_b7682_4]:List Value)=[vI ((AI c k).1.epoch),vI ((AI c k).1.threshold),vI ((AI c k).1.wait),vr0_b7682_3,vr0_b7682_4] from by (rw [PP aS];done)];exact hbs_0_b7682),aS⟩
    ·have hp7747:(c.guardians.length:Int)≤((k:Nat):Int):=by simpa using hc7723
     obtain rfl:k=c.guardians.length:=by omega
     refine DE (CC (CC (CY (AC (?_)))))
     refine AG (?_)
     refine AG (?_)
     refine AB kR (AA (AE (vI ((AI c c.guardians.length).2)) rfl (AA (EI .i64 ((AI c c.guardians.length).2) (0:Int) rfl rfl (AF (AC (?_)))))))
     refine AO (((AI c c.guardians.length).2) == (0:Int)) rfl rfl (fun hc7748=>?_) (fun hc7748=>?_)
     ·have hp7749:(AI c c.guardians.length).2=(0:Int):=by simpa using hc7748
      refine AB kR (AA (BN (vs:=[vI ((AI c c.guardians.length).1.epoch),vI ((AI c c.guardians.length).1.threshold),vI ((AI c c.guardians.length).1.wait),vr0_b7682_3,vr0_b7682_4]) U28_ rfl BL rfl hbs_0_b7682 rfl (AA (AE (vI ((AV c (AQ c)).2.1)) rfl (AA (AE (vI (AQ c)) rfl (AA (BM 2 f_28_2 (c.wait) rfl hp7681 (fun _ _ _ h=>IW h) fun a7750 hp7751=>(AA (CE U3_ rfl rfl hp7751 (AA (DC .i64 (AQ c) c.wait ((AQ c+c.wait)) rfl rfl (FO (by have:=app_w (c:=c) aS;omega) (by have:=app_w (c:=c) aS;omega)) (AA (o_min .i64 (1023:Int) (AQ c+c.wait) rfl rfl (AA (BB (vs:=[vA #[vI ((AI c c.guardians.length).1.epoch),vI ((AI c c.guardians.length).1.threshold),vI ((AI c c.guardians.length).1.wait),vr0_b7682_3,vr0_b7682_4],vI ((AV c (AQ c)).2.1),vI (if (AQ c+c.wait)<(1023:Int) then (AQ c+c.wait) else (1023:Int))]) TX (SQ (O:=Bl0++O) [vI ((AI c c.guardians.length).1.epoch),vI ((AI c c.guardians.length).1.threshold),vI ((AI c c.guardians.length).1.wait),vr0_b7682_3,vr0_b7682_4] ((AI c c.guardians.length).1) ((AV c (AQ c)).2.1) (if (AQ c+c.wait)<(1023:Int) then (AQ c+c.wait) else (1023:Int)) wl0 ⟨_,_,rfl,hrd0_b7682_3,hrd0_b7682_4⟩ sl0.lt) rfl sl0 fun v7752 w7753 s7754 m7755 k7756 r7757=>(?_)))))))))))))))))
      obtain ⟨cs7758,rfl,hs7759⟩:=r7757
      have hbs_0_b7682:=hbs_0_b7682.keep k7756 (by simp)
      refine AA (AE (vT #[vA cs7758.toArray,vI ((BO ((AI c c.guardians.length).1) ((AV c (AQ c)).2.1) (AY ((AI c c.guardians.length).1) (if (AQ c+c.wait)<(1023:Int) then (AQ c+c.wait) else (1023:Int)))).2)]) rfl (AA (AN (vA cs7758.toArray) rfl rfl (AA (AN (vI ((BO ((AI c c.guardians.length).1) ((AV c (AQ c)).2.1) (AY ((AI c c.guardians.length).1) (if (AQ c+c.wait)<(1023:Int) then (AQ c+c.wait) else (1023:Int)))).2)) rfl rfl (?_))))))
      obtain ⟨d7765,d7767,rfl,hd7766,hd7768⟩:=hs7759
      have:=hd7766.len_le
      have:=hd7768.len_le
      refine BY (BC (vs:=[vI (((BO ((AI c c.guardians.length).1) ((AV c (AQ c)).2.1) (AY ((AI c c.guardians.length).1) (if (AQ c+c.wait)<(1023:Int) then (AQ c+c.wait) else (1023:Int)))).1).epoch),vI (((BO ((AI c c.guardians.length).1) ((AV c (AQ c)).2.1) (AY ((AI c c.guardians.length).1) (if (AQ c+c.wait)<(1023:Int) then (AQ c+c.wait) else (1023:Int)))).1).threshold),vI (((BO ((AI c c.guardians.length).1) ((AV c (AQ c)).2.1) (AY ((AI c c.guardians.length).1) (if (AQ c+c.wait)<(1023:Int) then (AQ c+c.wait) else (1023:Int)))).1).wait),d7765,d7767]) (.agg #[vI (((BO ((AI c c.guardians.length).1) ((AV c (AQ c)).2.1) (AY ((AI c c.guardians.length).1) (if (AQ c+c.wait)<(1023:Int) then (AQ c+c.wait) else (1023:Int)))).1).epoch),vI (((BO ((AI c c.guardians.length).1) ((AV c (AQ c)).2.1) (AY ((AI c c.guardians.length).1) (if (AQ c+c.wait)<(1023:Int) then (AQ c+c.wait) else (1023:Int)))).1).threshold),vI (((BO ((AI c c.guardians.length).1) ((AV c (AQ c)).2.1) (AY ((AI c c.guardians.length).1) (if (AQ c+c.wait)<(1023:Int) then (AQ c+c.wait) else (1023:Int)))).1).wait),d7765,d7767]) rfl rfl rfl BL (fun u hu=>by simp only [List.mem_cons,List.not_mem_nil,or_false] at hu;rcases hu with rfl|rfl|rfl|rfl|rfl <;> first|rfl|exact hd7766.oneCell|exact hd7768.oneCell) (by repeat (assumption)) hbs_0_b7682 oT s7754 fun w7760 s7761 m7762 k7763 bx7764=>(?_))
      have hd7766:=hd7766.mv m7762
      have hd7768:=hd7768.mv m7762
      refine AA (AD (vI ((BO ((AI c c.guardians.length).1) ((AV c (AQ c)).2.1) (AY ((AI c c.guardians.length).1) (if (AQ c+c.wait)<(1023:Int) then (AQ c+c.wait) else (1023:Int)))).2)) rfl (AF (AC (?_))))
      refine AG (?_)
      refine AB kR (AA (BN (vs:=[vI (((BO ((AI c c.guardians.length).1) ((AV c (AQ c)).2.1) (AY ((AI c c.guardians.length).1) (if (AQ c+c.wait)<(1023:Int) then (AQ c+c.wait) else (1023:Int)))).1).epoch),vI (((BO ((AI c c.guardians.length).1) ((AV c (AQ c)).2.1) (AY ((AI c c.guardians.length).1) (if (AQ c+c.wait)<(1023:Int) then (AQ c+c.wait) else (1023:Int)))).1).threshold),vI (((BO ((AI c c.guardians.length).1) ((AV c (AQ c)).2.1) (AY ((AI c c.guardians.length).1) (if (AQ c+c.wait)<(1023:Int) then (AQ c+c.wait) else (1023:Int)))).1).wait),d7765,d7767]) U28_ rfl BL rfl bx7764 rfl (AA (AE (vI ((AV c (AQ c)).2.1)) rfl (AA (AE (vI ((BO ((AI c c.guardians.length).1) ((AV c (AQ c)).2.1) (AY ((AI c c.guardians.length).1) (if (AQ c+c.wait)<(1023:Int) then (AQ c+c.wait) else (1023:Int)))).2)) rfl (AA (EI .i64 ((BO ((AI c c.guardians.length).1) ((AV c (AQ c)).2.1) (AY ((AI c c.guardians.length).1) (if (AQ c+c.wait)<(1023:Int) then (AQ c+c.wait) else (1023:Int)))).2) (0:Int) rfl rfl (BY (BC (vs:=[vI (((BO ((AI c c.guardians.length).1) ((AV c (AQ c)).2.1) (AY ((AI c c.guardians.length).1) (if (AQ c+c.wait)<(1023:Int) then (AQ c+c.wait) else (1023:Int)))).1).epoch),vI (((BO ((AI c c.guardians.length).1) ((AV c (AQ c)).2.1) (AY ((AI c c.guardians.length).1) (if (AQ c+c.wait)<(1023:Int) then (AQ c+c.wait) else (1023:Int)))).1).threshold),vI (((BO ((AI c c.guardians.length).1) ((AV c (AQ c)).2.1) (AY ((AI c c.guardians.length).1) (if (AQ c+c.wait)<(1023:Int) then (AQ c+c.wait) else (1023:Int)))).1).wait),d7765,d7767]) (.agg #[vI (((BO ((AI c c.guardians.length).1) ((AV c (AQ c)).2.1) (AY ((AI c c.guardians.length).1) (if (AQ c+c.wait)<(1023:Int) then (AQ c+c.wait) else (1023:Int)))).1).epoch),vI (((BO ((AI c c.guardians.length).1) ((AV c (AQ c)).2.1) (AY ((AI c c.guardians.length).1) (if (AQ c+c.wait)<(1023:Int) then (AQ c+c.wait) else (1023:Int)))).1).threshold),vI (((BO ((AI c c.guardians.length).1) ((AV c (AQ c)).2.1) (AY ((AI c c.guardians.length).1) (if (AQ c+c.wait)<(1023:Int) then (AQ c+c.wait) else (1023:Int)))).1).wait),d7765,d7767]) rfl rfl rfl BL (fun u hu=>by simp only [List.mem_cons,List.not_mem_nil,or_false] at hu;rcases hu with rfl|rfl|rfl|rfl|rfl <;> first|rfl|exact hd7766.oneCell|exact hd7768.oneCell) (by repeat (assumption)) bx7764 oT s7761 fun w7769 s7770 m7771 k7772 bx7773=>(?_)))))))))))
      have hd7766:=hd7766.mv m7771
      have hd7768:=hd7768.mv m7771
      refine AA (AD (vI ((AV c (AQ c)).2.1)) rfl (AA (AD (vO (((BO ((AI c c.guardians.length).1) ((AV c (AQ c)).2.1) (AY ((AI c c.guardians.length).1) (if (AQ c+c.wait)<(1023:Int) then (AQ c+c.wait) else (1023:Int)))).2) == (0:Int))) rfl (AF (AC (?_))))))
      refine AP (AZ rfl (FV rfl (DY (vs:=[vI (((BO ((AI c c.guardians.length).1) ((AV c (AQ c)).2.1) (AY ((AI c c.guardians.length).1) (if (AQ c+c.wait)<(1023:Int) then (AQ c+c.wait) else (1023:Int)))).1).epoch),vI (((BO ((AI c c.guardians.length).1) ((AV c (AQ c)).2.1) (AY ((AI c c.guardians.length).1) (if (AQ c+c.wait)<(1023:Int) then (AQ c+c.wait) else (1023:Int)))).1).threshold),vI (((BO ((AI c c.guardians.length).1) ((AV c (AQ c)).2.1) (AY ((AI c c.guardians.length).1) (if (AQ c+c.wait)<(1023:Int) then (AQ c+c.wait) else (1023:Int)))).1).wait),d7765,d7767]) rfl U28_ rfl BL rfl bx7773 rfl) (DN rfl rfl) (DN rfl rfl)) (?_))
      have e7774:((CL c).1)=((BO ((AI c c.guardians.length).1) ((AV c (AQ c)).2.1) (AY ((AI c c.guardians.length).1) (if (AQ c+c.wait)<(1023:Int) then (AQ c+c.wait) else (1023:Int)))).1):=by exact congrArg (fun p=>p.1) (show CL c=_ from RA aS aS)
      have e7775:((CL c).2.1)=((AV c (AQ c)).2.1):=by exact congrArg (fun p=>p.2.1) (show CL c=_ from RA aS aS)
      have e7776:((CL c).2.2)=(((BO ((AI c c.guardians.length).1) ((AV c (AQ c)).2.1) (AY ((AI c c.guardians.length).1) (if (AQ c+c.wait)<(1023:Int) then (AQ c+c.wait) else (1023:Int)))).2) == (0:Int)):=by exact congrArg (fun p=>p.2.2) (show CL c=_ from RA aS aS)
      exact ⟨_,rfl,s7770.keep,by rw [e7774,e7775,e7776];exact ⟨[vI (((BO ((AI c c.guardians.length).1) ((AV c (AQ c)).2.1) (AY ((AI c c.guardians.length).1) (if (AQ c+c.wait)<(1023:Int) then (AQ c+c.wait) else (1023:Int)))).1).epoch),vI (((BO ((AI c c.guardians.length).1) ((AV c (AQ c)).2.1) (AY ((AI c c.guardians.length).1) (if (AQ c+c.wait)<(1023:Int) then (AQ c+c.wait) else (1023:Int)))).1).threshold),vI (((BO ((AI c c.guardians.length).1) ((AV c (AQ c)).2.1) (AY ((AI c c.guardians.length).1) (if (AQ c+c.wait)<(1023:Int) then (AQ c+c.wait) else (1023:Int)))).1).wait),d7765,d7767],rfl,Enc.out (B:=Bl0) ⟨_,_,rfl,hd7766,hd7768⟩⟩⟩
     ·have hp7777:(AI c c.guardians.length).2≠(0:Int):=by simpa using hc7748
      refine AU (AC (?_))
      refine AG (?_)
      refine AB kR (AA (BN (vs:=[vI ((AI c c.guardians.length).1.epoch),vI ((AI c c.guardians.length).1.threshold),vI ((AI c c.guardians.length).1.wait),vr0_b7682_3,vr0_b7682_4]) U28_ rfl BL rfl hbs_0_b7682 rfl (AA (AE (vI ((AV c (AQ c)).2.1)) rfl (AA (AE (vI ((AI c c.guardians.length).2)) rfl (AA (EI .i64 ((AI c c.guardians.length).2) (0:Int) rfl rfl (BY (BC (vs:=[vI ((AI c c.guardians.length).1.epoch),vI ((AI c c.guardians.length).1.threshold),vI ((AI c c.guardians.length).1.wait),vr0_b7682_3,vr0_b7682_4]) (.agg #[vI ((AI c c.guardians.length).1.epoch),vI ((AI c c.guardians.length).1.threshold),vI ((AI c c.guardians.length).1.wait),vr0_b7682_3,vr0_b7682_4]) rfl rfl rfl BL (fun u hu=>by simp only [List.mem_cons,List.not_mem_nil,or_false] at hu;rcases hu with rfl|rfl|rfl|rfl|rfl <;> first|rfl|exact hrd0_b7682_3.oneCell|exact hrd0_b7682_4.oneCell) (by repeat (assumption)) hbs_0_b7682 oT sl0 fun w7778 s7779 m7780 k7781 bx7782=>(?_)))))))))))
      have hrd0_b7682_3:=hrd0_b7682_3.mv m7780
      have hrd0_b7682_4:=hrd0_b7682_4.mv m7780
      refine AA (AD (vI ((AV c (AQ c)).2.1)) rfl (AA (AD (vO (((AI c c.guardians.length).2) == (0:Int))) rfl (AF (AC (?_))))))
      refine AP (AZ rfl (FV rfl (DY (vs:=[vI ((AI c c.guardians.length).1.epoch),vI ((AI c c.guardians.length).1.threshold),vI ((AI c c.guardians.length).1.wait),vr0_b7682_3,vr0_b7682_4]) rfl U28_ rfl BL rfl bx7782 rfl) (DN rfl rfl) (DN rfl rfl)) (?_))
      have e7783:((CL c).1)=((AI c c.guardians.length).1):=by exact congrArg (fun p=>p.1) (show CL c=_ from RO aS aS)
      have e7784:((CL c).2.1)=((AV c (AQ c)).2.1):=by exact congrArg (fun p=>p.2.1) (show CL c=_ from RO aS aS)
      have e7785:((CL c).2.2)=(((AI c c.guardians.length).2) == (0:Int)):=by exact congrArg (fun p=>p.2.2) (show CL c=_ from RO aS aS)
      exact ⟨_,rfl,s7779.keep,by rw [e7783,e7784,e7785];exact ⟨[vI ((AI c c.guardians.length).1.epoch),vI ((AI c c.guardians.length).1.threshold),vI ((AI c c.guardians.length).1.wait),vr0_b7682_3,vr0_b7682_4],rfl,Enc.out (B:=Bl0) ⟨_,_,rfl,hrd0_b7682_3,hrd0_b7682_4⟩⟩⟩
 ·have hp7786:(0:Int)<(c.recs.length:Int):=by simpa using hb7693
  refine BE rfl (BM 4 DK (c.recs) rfl hp7681 (fun _ _ _ h=>CJ h) fun a7787 hp7788=>(BE rfl (BW U26_ rfl rfl hp7788 fun v7789 hl7790=>(?_))))
  have:=hl7790.len_le
  refine BE rfl (AE (vI (c.recs.length:Int)) rfl (BE rfl (HW .i64 (c.recs.length:Int) (1:Int) (((c.recs.length - 1:Nat):Int)) rfl rfl (FO oM oM) (BE rfl (DI U26_ GA .i64 ((c.recs.length - 1:Nat):Int) (c.recs.length - 1) rfl rfl rfl hl7790 oM fun a7791 hp7792=>(BE rfl (BM 2 KD ((c.recs[c.recs.length - 1]!).state) rfl hp7792 (fun _ _ _ h=>GI h) fun a7793 hp7794=>(BE rfl (CE U3_ rfl rfl hp7794 (BE rfl (EI .i64 ((c.recs[c.recs.length - 1]!).state) (0:Int) rfl rfl (AA (BK (vO (((c.recs[c.recs.length - 1]!).state) == (0:Int))) rfl rfl (AF (AC (?_))))))))))))))))
  refine AO (((c.recs[c.recs.length - 1]!).state) == (0:Int)) rfl rfl (fun hc7795=>?_) (fun hc7795=>?_)
  ·have hp7796:(c.recs[c.recs.length - 1]!).state=(0:Int):=by simpa using hc7795
   refine AG (?_)
   refine AB kR (AA (CR U28_ rfl BL rfl hp7681 fun cs7797 hs7798=>(?_)))
   obtain ⟨d7804,d7806,rfl,hd7805,hd7807⟩:=hs7798
   have:=hd7805.len_le
   have:=hd7807.len_le
   refine BY (BC (vs:=[vI c.epoch,vI c.threshold,vI c.wait,d7804,d7806]) (.agg #[vI c.epoch,vI c.threshold,vI c.wait,d7804,d7806]) rfl rfl rfl BL (fun u hu=>by simp only [List.mem_cons,List.not_mem_nil,or_false] at hu;rcases hu with rfl|rfl|rfl|rfl|rfl <;> first|rfl|exact hd7805.oneCell|exact hd7807.oneCell) (by repeat (constructor)) bx7687 oT s7684 fun w7799 s7800 m7801 k7802 bx7803=>(?_))
   have hd7805:=hd7805.mv m7801
   have hd7807:=hd7807.mv m7801
   refine AA (AD (vI 0) rfl (AA (AD (vO false) rfl (AF (AC (?_))))))
   refine AP (AR (AZ rfl (FV rfl (DY (vs:=[vI c.epoch,vI c.threshold,vI c.wait,d7804,d7806]) rfl U28_ rfl BL rfl bx7803 rfl) (DN rfl rfl) (DN rfl rfl)) (?_)))
   have e7808:((CL c).1)=c:=by exact congrArg (fun p=>p.1) (show CL c=_ from done_1 (last_y aS aS))
   have e7809:((CL c).2.1)=(0:Int):=by exact congrArg (fun p=>p.2.1) (show CL c=_ from done_1 (last_y aS aS))
   have e7810:((CL c).2.2)=false:=by exact congrArg (fun p=>p.2.2) (show CL c=_ from done_1 (last_y aS aS))
   exact ⟨_,rfl,s7800.keep,by rw [e7808,e7809,e7810];exact ⟨[vI c.epoch,vI c.threshold,vI c.wait,d7804,d7806],rfl,Enc.out (B:=(b7682 :: [])) ⟨_,_,rfl,hd7805,hd7807⟩⟩⟩
  ·have hp7811:(c.recs[c.recs.length - 1]!).state≠(0:Int):=by simpa using hc7795
   refine AU (AC (?_))
   refine AG (?_)
   refine AB kR (AA (AD (vI 0) rfl (AF (AC (?_)))))
   refine UO (fun FI wI=>GH c=false∧True∧(∃ F1,FI=FT F1 [(1,vP (some a7676)),(2,vP (some ⟨b7682,0,none⟩)),(6,vI (AQ c)),(80,undef)])∧w7683=wI) ?_ ?_
   ·refine AG (?_)
    refine AB kR (AA (BM 4 DK (c.recs) rfl hp7681 (fun _ _ _ h=>CJ h) fun a7812 hp7813=>(AA (BW U26_ rfl rfl hp7813 fun v7814 hl7815=>(?_)))))
    have:=hl7815.len_le
    refine AA (CG U26_ rfl hl7815 (AA (AD (vI (c.recs.length:Int)) rfl (AF (AC (?_))))))
    refine AG (?_)
    refine AB kR (AA (AE (vI (c.recs.length:Int)) rfl (AA (FW .i64 (c.recs.length:Int) (0:Int) rfl rfl (AF (AC (?_)))))))
    have hb7816:(decide ((0:Int)<(c.recs.length:Int)))=true:=hb7693
    rw [hb7816]
    refine AO true rfl rfl (fun _=>?_) (fun h=>by cases h)
    refine AB kR (AA (BM 4 DK (c.recs) rfl hp7681 (fun _ _ _ h=>CJ h) fun a7817 hp7818=>(AA (BW U26_ rfl rfl hp7818 fun v7819 hl7820=>(?_)))))
    have:=hl7820.len_le
    refine AA (AE (vI (c.recs.length:Int)) rfl (AA (HW .i64 (c.recs.length:Int) (1:Int) (((c.recs.length - 1:Nat):Int)) rfl rfl (FO oM oM) (AA (DI U26_ GA .i64 ((c.recs.length - 1:Nat):Int) (c.recs.length - 1) rfl rfl rfl hl7820 oM fun a7821 hp7822=>(AA (BM 1 NC ((c.recs[c.recs.length - 1]!).asked) rfl hp7822 (fun _ _ _ h=>MR h) fun a7823 hp7824=>(AA (CE U3_ rfl rfl hp7824 (AA (AD (vI ((c.recs[c.recs.length - 1]!).asked)) rfl (AF (AC (?_))))))))))))))
    exact ⟨(last_n (by exact .inr aS)),trivial,⟨_,AX _ ⟨rfl,rfl,(by exact congrArg (Value.int _) (by (exact (if_pos aS).symm))),rfl,trivial⟩⟩,rfl⟩
   ·rintro F wlc40 ⟨hrc40_0,hmc40,⟨Flc40,rfl⟩,rfl⟩
    refine AG (?_)
    refine AB kR (AA (CR U28_ rfl BL rfl hp7681 fun cs7825 hs7826=>(AA (AE (vI (AQ c)) rfl (AA (BB (vs:=[vA cs7825.toArray,vI (AQ c)]) SU (c_ask (O:=(b7682 :: [])++O) cs7825 c (AQ c) w7683 hs7826 s7684.lt) rfl s7684 fun v7827 w7828 s7829 m7830 k7831 r7832=>(?_)))))))
    obtain ⟨cs7833,rfl,hs7834⟩:=r7832
    have hp7681:=hp7681.mv m7830
    have bx7687:=bx7687.keep k7831 (by simp)
    refine AA (AE (vT #[vA cs7833.toArray,vI ((AV c (AQ c)).2.1),vI ((AV c (AQ c)).2.2)]) rfl (AA (AN (vA cs7833.toArray) rfl rfl (AA (AN (vI ((AV c (AQ c)).2.1)) rfl rfl (AA (AN (vI ((AV c (AQ c)).2.2)) rfl rfl (?_))))))))
    obtain ⟨d7840,d7842,rfl,hd7841,hd7843⟩:=hs7834
    have:=hd7841.len_le
    have:=hd7843.len_le
    refine BY (BC (vs:=[vI (((AV c (AQ c)).1).epoch),vI (((AV c (AQ c)).1).threshold),vI (((AV c (AQ c)).1).wait),d7840,d7842]) (.agg #[vI (((AV c (AQ c)).1).epoch),vI (((AV c (AQ c)).1).threshold),vI (((AV c (AQ c)).1).wait),d7840,d7842]) rfl rfl rfl BL (fun u hu=>by simp only [List.mem_cons,List.not_mem_nil,or_false] at hu;rcases hu with rfl|rfl|rfl|rfl|rfl <;> first|rfl|exact hd7841.oneCell|exact hd7843.oneCell) (by repeat (constructor)) bx7687 oT s7829 fun w7835 s7836 m7837 k7838 bx7839=>(?_))
    have hp7681:=hp7681.mv m7837
    have hd7841:=hd7841.mv m7837
    have hd7843:=hd7843.mv m7837
    refine AA (AD (vI ((AV c (AQ c)).2.1)) rfl (AA (AD (vI ((AV c (AQ c)).2.2)) rfl (AF (AC (?_))))))
    refine AG (?_)
    refine AG (?_)
    refine AB kR (AA (BM 3 JW (c.guardians) rfl hp7681 (fun _ _ _ h=>EQ h) fun a7844 hp7845=>(AA (BW U22_ rfl rfl hp7845 fun v7846 hl7847=>(?_)))))
    have:=hl7847.len_le
    refine AA (CG U22_ rfl hl7847 (AA (AE (vI 0) rfl (AF (AC (?_))))))
    refine BR (?_)
    refine DH (fun mI FI wI=>∃ (k:Nat) (vr0_b7682_3:Value) (vr0_b7682_4:Value) (B:List Nat),k≤c.guardians.length∧mI=c.guardians.length - k∧(∃ F1,FI=FT F1 [(1,vP (some a7676)),(2,vP (some ⟨b7682,0,none⟩)),(3,vI ((AV c (AQ c)).2.1)),(6,vI (AQ c)),(8,vI ((AI c k).2)),(47,v7846),(48,vI (c.guardians.length:Int)),(49,vI ((k:Nat):Int)),(80,undef)])∧St w O wI B∧BG Enc.int wI (B++O) vr0_b7682_3 ((AI c k).1.guardians)∧BG Enc.recovery wI (B++O) vr0_b7682_4 ((AI c k).1.recs)∧PT Enc.circle wI (B++O) (.pointer (some a7676)) (c)∧BG Enc.int wI (B++O) (v7846) (c.guardians)∧GQ wI b7682 28 [vI ((AI c k).1.epoch),vI ((AI c k).1.threshold),vI ((AI c k).1.wait),vr0_b7682_3,vr0_b7682_4]∧b7682∈B) (c.guardians.length - (0)) ?_ ?_
    ·exact ⟨(0),d7840,d7842,(b7682 :: []),oM,rfl,⟨_,AX _ ⟨rfl,rfl,rfl,rfl,(by rfl),rfl,rfl,(by rfl),rfl,trivial⟩⟩,s7836,(by rw [show (AI c (0)).1.guardians=((AV c (AQ c)).1).guardians from rfl];exact hd7841),(by rw [show (AI c (0)).1.recs=((AV c (AQ c)).1).recs from rfl];exact hd7843),hp7681,hl7847,(by rw [show ([vI ((AI c (0)).1.epoch),vI ((AI c (0)).1.threshold),vI ((AI c (0)).1.wait),d7840,d7842]:List Value)=[vI (((AV c (AQ c)).1).epoch),vI (((AV c (AQ c)).1).threshold),vI (((AV c (AQ c)).1).wait),d7840,d7842] from rfl];exact bx7839),(by (repeat (exact List.mem_cons_self)))⟩
    ·intro ml0 F wl0 hI
     clear hp7681 hl7847
     obtain ⟨k,vr0_b7682_3,vr0_b7682_4,Bl0,hr0_0,hm0,⟨Fl0,rfl⟩,sl0,hrd0_b7682_3,hrd0_b7682_4,hp7681,hl7847,hbs_0_b7682,hin_b7682⟩:=hI
     have:=hrd0_b7682_3.len_le
     have:=hrd0_b7682_4.len_le
     refine AG (?_)
     refine AB kR (AA (DW .i64 ((k:Nat):Int) (c.guardians.length:Int) rfl rfl (AF (AC (?_)))))
     refine AG (?_)
     refine AO (decide (((k:Nat):Int)<(c.guardians.length:Int))) rfl rfl (fun hc7848=>?_) (fun hc7848=>?_)
     ·have hp7849:((k:Nat):Int)<(c.guardians.length:Int):=by simpa using hc7848
      refine AU (AC (?_))
      refine AG (?_)
      refine BR (?_)
      refine AG (?_)
      refine AB kR (AA (DI U22_ MW .i64 ((k:Nat):Int) k rfl rfl rfl hl7847 oM fun a7850 hp7851=>(AA (CE U3_ rfl rfl hp7851 (AA (AD (vI (c.guardians[k]!)) rfl (AF (AC (?_)))))))))
      refine AG (?_)
      refine AB kR (AA (AE (vI ((AI c k).2)) rfl (AA (EI .i64 ((AI c k).2) (0:Int) rfl rfl (AF (AC (?_)))))))
      refine AO (((AI c k).2) == (0:Int)) rfl rfl (fun hc7852=>?_) (fun hc7852=>?_)
      ·have hp7853:(AI c k).2=(0:Int):=by simpa using hc7852
       refine AB kR (AA (BN (vs:=[vI ((AI c k).1.epoch),vI ((AI c k).1.threshold),vI ((AI c k).1.wait),vr0_b7682_3,vr0_b7682_4]) U28_ rfl BL rfl hbs_0_b7682 rfl (AA (AE (vI ((AV c (AQ c)).2.1)) rfl (AA (AE (vI (c.guardians[k]!)) rfl (AA (BB (vs:=[vA #[vI ((AI c k).1.epoch),vI ((AI c k).1.threshold),vI ((AI c k).1.wait),vr0_b7682_3,vr0_b7682_4],vI ((AV c (AQ c)).2.1),vI (c.guardians[k]!)]) PZ (OK (O:=Bl0++O) [vI ((AI c k).1.epoch),vI ((AI c k).1.threshold),vI ((AI c k).1.wait),vr0_b7682_3,vr0_b7682_4] ((AI c k).1) ((AV c (AQ c)).2.1) (c.guardians[k]!) wl0 ⟨_,_,rfl,hrd0_b7682_3,hrd0_b7682_4⟩ sl0.lt) rfl sl0 fun v7854 w7855 s7856 m7857 k7858 r7859=>(?_)))))))))
       obtain ⟨cs7860,rfl,hs7861⟩:=r7859
       have hp7681:=hp7681.mv m7857
       have hl7847:=hl7847.mv m7857
       have hbs_0_b7682:=hbs_0_b7682.keep k7858 (by simp)
       refine AA (AE (vT #[vA cs7860.toArray,vI ((BO ((AI c k).1) ((AV c (AQ c)).2.1) (BA ((AI c k).1) (c.guardians[k]!))).2)]) rfl (AA (AN (vA cs7860.toArray) rfl rfl (AA (AN (vI ((BO ((AI c k).1) ((AV c (AQ c)).2.1) (BA ((AI c k).1) (c.guardians[k]!))).2)) rfl rfl (?_))))))
       obtain ⟨d7867,d7869,rfl,hd7868,hd7870⟩:=hs7861
       have:=hd7868.len_le
       have:=hd7870.len_le
       refine BY (BC (vs:=[vI (((BO ((AI c k).1) ((AV c (AQ c)).2.1) (BA ((AI c k).1) (c.guardians[k]!))).1).epoch),vI (((BO ((AI c k).1) ((AV c (AQ c)).2.1) (BA ((AI c k).1) (c.guardians[k]!))).1).threshold),vI (((BO ((AI c k).1) ((AV c (AQ c)).2.1) (BA ((AI c k).1) (c.guardians[k]!))).1).wait),d7867,d7869]) (.agg #[vI (((BO ((AI c k).1) ((AV c (AQ c)).2.1) (BA ((AI c k).1) (c.guardians[k]!))).1).epoch),vI (((BO ((AI c k).1) ((AV c (AQ c)).2.1) (BA ((AI c k).1) (c.guardians[k]!))).1).threshold),vI (((BO ((AI c k).1) ((AV c (AQ c)).2.1) (BA ((AI c k).1) (c.guardians[k]!))).1).wait),d7867,d7869]) rfl rfl rfl BL (fun u hu=>by simp only [List.mem_cons,List.not_mem_nil,or_false] at hu;rcases hu with rfl|rfl|rfl|rfl|rfl <;> first|rfl|exact hd7868.oneCell|exact hd7870.oneCell) (by repeat (assumption)) hbs_0_b7682 oT s7856 fun w7862 s7863 m7864 k7865 bx7866=>(?_))
       have hp7681:=hp7681.mv m7864
       have hl7847:=hl7847.mv m7864
       have hd7868:=hd7868.mv m7864
       have hd7870:=hd7870.mv m7864
       refine AA (AD (vI ((BO ((AI c k).1) ((AV c (AQ c)).2.1) (BA ((AI c k).1) (c.guardians[k]!))).2)) rfl (AF (CI (AC (?_)))))
       refine AB kR (AA (DC .i64 ((k:Nat):Int) (1:Int) (((k+1:Nat):Int)) rfl rfl (FO oM oM) (AA (AE (vI ((k+1:Nat):Int)) rfl (AF (AC (?_)))))))
       exact ⟨_,oM,(k+1),d7867,d7869,Bl0,oM,rfl,⟨_,AX _ ⟨rfl,rfl,rfl,rfl,(by exact congrArg (Value.int _) (by ((rw [PQ aS];done)))),rfl,rfl,(by rfl),rfl,trivial⟩⟩,s7863,(by rw [show (AI c (k+1)).1.guardians=((BO ((AI c k).1) ((AV c (AQ c)).2.1) (BA ((AI c k).1) (c.guardians[k]!))).1).guardians from by (rw [PQ aS];done)];exact hd7868),(by rw [show (AI c (k+1)).1.recs=((BO ((AI c k).1) ((AV c (AQ c)).2.1) (BA ((AI c k).1) (c.guardians[k]!))).1).recs from by (rw [PQ aS];done)];exact hd7870),hp7681,hl7847,(by rw [show ([vI ((AI c (k+1)).1.epoch),vI ((AI c (k+1)).1.threshold),vI ((AI c (k+1)).1.wait),d7867,d7869]:List Value)=[vI (((BO ((AI c k).1) ((AV c (AQ c)).2.1) (BA ((AI c k).1) (c.guardians[k]!))).1).epoch),vI (((BO ((AI c k).1) ((AV c (AQ c)).2.1) (BA ((AI c k).1) (c.guardians[k]!))).1).threshold),vI (((BO ((AI c k).1) ((AV c (AQ c)).2.1) (BA ((AI c k).1) (c.guardians[k]!))).1).wait),d7867,d7869] from by (rw [PQ aS];done)];exact bx7866),aS⟩
      ·have hp7871:(AI c k).2≠(0:Int):=by simpa using hc7852
       refine AU (CI (AC (?_)))
       refine AB kR (AA (DC .i64 ((k:Nat):Int) (1:Int) (((k+1:Nat):Int)) rfl rfl (FO oM oM) (AA (AE (vI ((k+1:Nat):Int)) rfl (AF (AC (?_)))))))
       exact ⟨_,oM,(k+1),vr0_b7682_3,vr0_b7682_4,Bl0,oM,rfl,⟨_,AX _ ⟨rfl,rfl,rfl,rfl,(by exact congrArg (Value.int _) (by ((rw [PP aS];done)))),rfl,rfl,(by rfl),rfl,trivial⟩⟩,sl0,(by rw [show (AI c (k+1)).1.guardians=(AI c k).1.guardians from by (rw [PP aS];done)];exact hrd0_b7682_3),(by rw [show (AI c (k+1)).1.recs=(AI c k).1.recs from by (rw [PP aS];done)];exact hrd0_b7682_4),hp7681,hl7847,(by rw [show ([vI ((AI c (k+1)).1.epoch),vI ((AI c (k+1)).1.threshold),vI ((AI c (k+1)).1.wait),vr0_b7682_3,vr0_b7682_4]:List Value)=[vI ((AI c k).1.epoch),vI ((AI c k).1.threshold),vI ((AI c k).1.wait),vr0_b7682_3,vr0_b7682_4] from by (rw [PP aS];done)];exact hbs_0_b7682),aS⟩
     ·have hp7872:(c.guardians.length:Int)≤((k:Nat):Int):=by simpa using hc7848
      obtain rfl:k=c.guardians.length:=by omega
      refine DE (CC (CC (CY (AC (?_)))))
      refine AG (?_)
      refine AG (?_)
      refine AB kR (AA (AE (vI ((AI c c.guardians.length).2)) rfl (AA (EI .i64 ((AI c c.guardians.length).2) (0:Int) rfl rfl (AF (AC (?_)))))))
      refine AO (((AI c c.guardians.length).2) == (0:Int)) rfl rfl (fun hc7873=>?_) (fun hc7873=>?_)
      ·have hp7874:(AI c c.guardians.length).2=(0:Int):=by simpa using hc7873
       refine AB kR (AA (BN (vs:=[vI ((AI c c.guardians.length).1.epoch),vI ((AI c c.guardians.length).1.threshold),vI ((AI c c.guardians.length).1.wait),vr0_b7682_3,vr0_b7682_4]) U28_ rfl BL rfl hbs_0_b7682 rfl (AA (AE (vI ((AV c (AQ c)).2.1)) rfl (AA (AE (vI (AQ c)) rfl (AA (BM 2 f_28_2 (c.wait) rfl hp7681 (fun _ _ _ h=>IW h) fun a7875 hp7876=>(AA (CE U3_ rfl rfl hp7876 (AA (DC .i64 (AQ c) c.wait ((AQ c+c.wait)) rfl rfl (FO (by have:=app_w (c:=c) aS;omega) (by have:=app_w (c:=c) aS;omega)) (AA (o_min .i64 (1023:Int) (AQ c+c.wait) rfl rfl (AA (BB (vs:=[vA #[vI ((AI c c.guardians.length).1.epoch),vI ((AI c c.guardians.length).1.threshold),vI ((AI c c.guardians.length).1.wait),vr0_b7682_3,vr0_b7682_4],vI ((AV c (AQ c)).2.1),vI (if (AQ c+c.wait)<(1023:Int) then (AQ c+c.wait) else (1023:Int))]) TX (SQ (O:=Bl0++O) [vI ((AI c c.guardians.length).1.epoch),vI ((AI c c.guardians.length).1.threshold),vI ((AI c c.guardians.length).1.wait),vr0_b7682_3,vr0_b7682_4] ((AI c c.guardians.length).1) ((AV c (AQ c)).2.1) (if (AQ c+c.wait)<(1023:Int) then (AQ c+c.wait) else (1023:Int)) wl0 ⟨_,_,rfl,hrd0_b7682_3,hrd0_b7682_4⟩ sl0.lt) rfl sl0 fun v7877 w7878 s7879 m7880 k7881 r7882=>(?_)))))))))))))))))
       obtain ⟨cs7883,rfl,hs7884⟩:=r7882
       have hbs_0_b7682:=hbs_0_b7682.keep k7881 (by simp)
       refine AA (AE (vT #[vA cs7883.toArray,vI ((BO ((AI c c.guardians.length).1) ((AV c (AQ c)).2.1) (AY ((AI c c.guardians.length).1) (if (AQ c+c.wait)<(1023:Int) then (AQ c+c.wait) else (1023:Int)))).2)]) rfl (AA (AN (vA cs7883.toArray) rfl rfl (AA (AN (vI ((BO ((AI c c.guardians.length).1) ((AV c (AQ c)).2.1) (AY ((AI c c.guardians.length).1) (if (AQ c+c.wait)<(1023:Int) then (AQ c+c.wait) else (1023:Int)))).2)) rfl rfl (?_))))))
       obtain ⟨d7890,d7892,rfl,hd7891,hd7893⟩:=hs7884
       have:=hd7891.len_le
       have:=hd7893.len_le
       refine BY (BC (vs:=[vI (((BO ((AI c c.guardians.length).1) ((AV c (AQ c)).2.1) (AY ((AI c c.guardians.length).1) (if (AQ c+c.wait)<(1023:Int) then (AQ c+c.wait) else (1023:Int)))).1).epoch),vI (((BO ((AI c c.guardians.length).1) ((AV c (AQ c)).2.1) (AY ((AI c c.guardians.length).1) (if (AQ c+c.wait)<(1023:Int) then (AQ c+c.wait) else (1023:Int)))).1).threshold),vI (((BO ((AI c c.guardians.length).1) ((AV c (AQ c)).2.1) (AY ((AI c c.guardians.length).1) (if (AQ c+c.wait)<(1023:Int) then (AQ c+c.wait) else (1023:Int)))).1).wait),d7890,d7892]) (.agg #[vI (((BO ((AI c c.guardians.length).1) ((AV c (AQ c)).2.1) (AY ((AI c c.guardians.length).1) (if (AQ c+c.wait)<(1023:Int) then (AQ c+c.wait) else (1023:Int)))).1).epoch),vI (((BO ((AI c c.guardians.length).1) ((AV c (AQ c)).2.1) (AY ((AI c c.guardians.length).1) (if (AQ c+c.wait)<(1023:Int) then (AQ c+c.wait) else (1023:Int)))).1).threshold),vI (((BO ((AI c c.guardians.length).1) ((AV c (AQ c)).2.1) (AY ((AI c c.guardians.length).1) (if (AQ c+c.wait)<(1023:Int) then (AQ c+c.wait) else (1023:Int)))).1).wait),d7890,d7892]) rfl rfl rfl BL (fun u hu=>by simp only [List.mem_cons,List.not_mem_nil,or_false] at hu;rcases hu with rfl|rfl|rfl|rfl|rfl <;> first|rfl|exact hd7891.oneCell|exact hd7893.oneCell) (by repeat (assumption)) hbs_0_b7682 oT s7879 fun w7885 s7886 m7887 k7888 bx7889=>(?_))
       have hd7891:=hd7891.mv m7887
       have hd7893:=hd7893.mv m7887
       refine AA (AD (vI ((BO ((AI c c.guardians.length).1) ((AV c (AQ c)).2.1) (AY ((AI c c.guardians.length).1) (if (AQ c+c.wait)<(1023:Int) then (AQ c+c.wait) else (1023:Int)))).2)) rfl (AF (AC (?_))))
       refine AG (?_)
       refine AB kR (AA (BN (vs:=[vI (((BO ((AI c c.guardians.length).1) ((AV c (AQ c)).2.1) (AY ((AI c c.guardians.length).1) (if (AQ c+c.wait)<(1023:Int) then (AQ c+c.wait) else (1023:Int)))).1).epoch),vI (((BO ((AI c c.guardians.length).1) ((AV c (AQ c)).2.1) (AY ((AI c c.guardians.length).1) (if (AQ c+c.wait)<(1023:Int) then (AQ c+c.wait) else (1023:Int)))).1).threshold),vI (((BO ((AI c c.guardians.length).1) ((AV c (AQ c)).2.1) (AY ((AI c c.guardians.length).1) (if (AQ c+c.wait)<(1023:Int) then (AQ c+c.wait) else (1023:Int)))).1).wait),d7890,d7892]) U28_ rfl BL rfl bx7889 rfl (AA (AE (vI ((AV c (AQ c)).2.1)) rfl (AA (AE (vI ((BO ((AI c c.guardians.length).1) ((AV c (AQ c)).2.1) (AY ((AI c c.guardians.length).1) (if (AQ c+c.wait)<(1023:Int) then (AQ c+c.wait) else (1023:Int)))).2)) rfl (AA (EI .i64 ((BO ((AI c c.guardians.length).1) ((AV c (AQ c)).2.1) (AY ((AI c c.guardians.length).1) (if (AQ c+c.wait)<(1023:Int) then (AQ c+c.wait) else (1023:Int)))).2) (0:Int) rfl rfl (BY (BC (vs:=[vI (((BO ((AI c c.guardians.length).1) ((AV c (AQ c)).2.1) (AY ((AI c c.guardians.length).1) (if (AQ c+c.wait)<(1023:Int) then (AQ c+c.wait) else (1023:Int)))).1).epoch),vI (((BO ((AI c c.guardians.length).1) ((AV c (AQ c)).2.1) (AY ((AI c c.guardians.length).1) (if (AQ c+c.wait)<(1023:Int) then (AQ c+c.wait) else (1023:Int)))).1).threshold),vI (((BO ((AI c c.guardians.length).1) ((AV c (AQ c)).2.1) (AY ((AI c c.guardians.length).1) (if (AQ c+c.wait)<(1023:Int) then (AQ c+c.wait) else (1023:Int)))).1).wait),d7890,d7892]) (.agg #[vI (((BO ((AI c c.guardians.length).1) ((AV c (AQ c)).2.1) (AY ((AI c c.guardians.length).1) (if (AQ c+c.wait)<(1023:Int) then (AQ c+c.wait) else (1023:Int)))).1).epoch),vI (((BO ((AI c c.guardians.length).1) ((AV c (AQ c)).2.1) (AY ((AI c c.guardians.length).1) (if (AQ c+c.wait)<(1023:Int) then (AQ c+c.wait) else (1023:Int)))).1).threshold),vI (((BO ((AI c c.guardians.length).1) ((AV c (AQ c)).2.1) (AY ((AI c c.guardians.length).1) (if (AQ c+c.wait)<(1023:Int) then (AQ c+c.wait) else (1023:Int)))).1).wait),d7890,d7892]) rfl rfl rfl BL (fun u hu=>by simp only [List.mem_cons,List.not_mem_nil,or_false] at hu;rcases hu with rfl|rfl|rfl|rfl|rfl <;> first|rfl|exact hd7891.oneCell|exact hd7893.oneCell) (by repeat (assumption)) bx7889 oT s7886 fun w7894 s7895 m7896 k7897 bx7898=>(?_)))))))))))
       have hd7891:=hd7891.mv m7896
       have hd7893:=hd7893.mv m7896
       refine AA (AD (vI ((AV c (AQ c)).2.1)) rfl (AA (AD (vO (((BO ((AI c c.guardians.length).1) ((AV c (AQ c)).2.1) (AY ((AI c c.guardians.length).1) (if (AQ c+c.wait)<(1023:Int) then (AQ c+c.wait) else (1023:Int)))).2) == (0:Int))) rfl (AF (AC (?_))))))
       refine AP (AZ rfl (FV rfl (DY (vs:=[vI (((BO ((AI c c.guardians.length).1) ((AV c (AQ c)).2.1) (AY ((AI c c.guardians.length).1) (if (AQ c+c.wait)<(1023:Int) then (AQ c+c.wait) else (1023:Int)))).1).epoch),vI (((BO ((AI c c.guardians.length).1) ((AV c (AQ c)).2.1) (AY ((AI c c.guardians.length).1) (if (AQ c+c.wait)<(1023:Int) then (AQ c+c.wait) else (1023:Int)))).1).threshold),vI (((BO ((AI c c.guardians.length).1) ((AV c (AQ c)).2.1) (AY ((AI c c.guardians.length).1) (if (AQ c+c.wait)<(1023:Int) then (AQ c+c.wait) else (1023:Int)))).1).wait),d7890,d7892]) rfl U28_ rfl BL rfl bx7898 rfl) (DN rfl rfl) (DN rfl rfl)) (?_))
       have e7899:((CL c).1)=((BO ((AI c c.guardians.length).1) ((AV c (AQ c)).2.1) (AY ((AI c c.guardians.length).1) (if (AQ c+c.wait)<(1023:Int) then (AQ c+c.wait) else (1023:Int)))).1):=by exact congrArg (fun p=>p.1) (show CL c=_ from RA aS aS)
       have e7900:((CL c).2.1)=((AV c (AQ c)).2.1):=by exact congrArg (fun p=>p.2.1) (show CL c=_ from RA aS aS)
       have e7901:((CL c).2.2)=(((BO ((AI c c.guardians.length).1) ((AV c (AQ c)).2.1) (AY ((AI c c.guardians.length).1) (if (AQ c+c.wait)<(1023:Int) then (AQ c+c.wait) else (1023:Int)))).2) == (0:Int)):=by exact congrArg (fun p=>p.2.2) (show CL c=_ from RA aS aS)
       exact ⟨_,rfl,s7895.keep,by rw [e7899,e7900,e7901];exact ⟨[vI (((BO ((AI c c.guardians.length).1) ((AV c (AQ c)).2.1) (AY ((AI c c.guardians.length).1) (if (AQ c+c.wait)<(1023:Int) then (AQ c+c.wait) else (1023:Int)))).1).epoch),vI (((BO ((AI c c.guardians.length).1) ((AV c (AQ c)).2.1) (AY ((AI c c.guardians.length).1) (if (AQ c+c.wait)<(1023:Int) then (AQ c+c.wait) else (1023:Int)))).1).threshold),vI (((BO ((AI c c.guardians.length).1) ((AV c (AQ c)).2.1) (AY ((AI c c.guardians.length).1) (if (AQ c+c.wait)<(1023:Int) then (AQ c+c.wait) else (1023:Int)))).1).wait),d7890,d7892],rfl,Enc.out (B:=Bl0) ⟨_,_,rfl,hd7891,hd7893⟩⟩⟩
      ·have hp7902:(AI c c.guardians.length).2≠(0:Int):=by simpa using hc7873
       refine AU (AC (?_))
       refine AG (?_)
       refine AB kR (AA (BN (vs:=[vI ((AI c c.guardians.length).1.epoch),vI ((AI c c.guardians.length).1.threshold),vI ((AI c c.guardians.length).1.wait),vr0_b7682_3,vr0_b7682_4]) U28_ rfl BL rfl hbs_0_b7682 rfl (AA (AE (vI ((AV c (AQ c)).2.1)) rfl (AA (AE (vI ((AI c c.guardians.length).2)) rfl (AA (EI .i64 ((AI c c.guardians.length).2) (0:Int) rfl rfl (BY (BC (vs:=[vI ((AI c c.guardians.length).1.epoch),vI ((AI c c.guardians.length).1.threshold),vI ((AI c c.guardians.length).1.wait),vr0_b7682_3,vr0_b7682_4]) (.agg #[vI ((AI c c.guardians.length).1.epoch),vI ((AI c c.guardians.length).1.threshold),vI ((AI c c.guardians.length).1.wait),vr0_b7682_3,vr0_b7682_4]) rfl rfl rfl BL (fun u hu=>by simp only [List.mem_cons,List.not_mem_nil,or_false] at hu;rcases hu with rfl|rfl|rfl|rfl|rfl <;> first|rfl|exact hrd0_b7682_3.oneCell|exact hrd0_b7682_4.oneCell) (by repeat (assumption)) hbs_0_b7682 oT sl0 fun w7903 s7904 m7905 k7906 bx7907=>(?_)))))))))))
       have hrd0_b7682_3:=hrd0_b7682_3.mv m7905
       have hrd0_b7682_4:=hrd0_b7682_4.mv m7905
       refine AA (AD (vI ((AV c (AQ c)).2.1)) rfl (AA (AD (vO (((AI c c.guardians.length).2) == (0:Int))) rfl (AF (AC (?_))))))
       refine AP (AZ rfl (FV rfl (DY (vs:=[vI ((AI c c.guardians.length).1.epoch),vI ((AI c c.guardians.length).1.threshold),vI ((AI c c.guardians.length).1.wait),vr0_b7682_3,vr0_b7682_4]) rfl U28_ rfl BL rfl bx7907 rfl) (DN rfl rfl) (DN rfl rfl)) (?_))
       have e7908:((CL c).1)=((AI c c.guardians.length).1):=by exact congrArg (fun p=>p.1) (show CL c=_ from RO aS aS)
       have e7909:((CL c).2.1)=((AV c (AQ c)).2.1):=by exact congrArg (fun p=>p.2.1) (show CL c=_ from RO aS aS)
       have e7910:((CL c).2.2)=(((AI c c.guardians.length).2) == (0:Int)):=by exact congrArg (fun p=>p.2.2) (show CL c=_ from RO aS aS)
       exact ⟨_,rfl,s7904.keep,by rw [e7908,e7909,e7910];exact ⟨[vI ((AI c c.guardians.length).1.epoch),vI ((AI c c.guardians.length).1.threshold),vI ((AI c c.guardians.length).1.wait),vr0_b7682_3,vr0_b7682_4],rfl,Enc.out (B:=Bl0) ⟨_,_,rfl,hrd0_b7682_3,hrd0_b7682_4⟩⟩⟩
set_option maxHeartbeats 4000000 in
set_option maxRecDepth 100000 in
theorem c_few46 {O:List Nat} (c_cs:List Value) (c:Circle) (l_v:Value) (l:List Share) (w:World) (h_c:Enc.circle.rd w O c_cs c) (h_l:BG Enc.share w O l_v l) (hO:∀ b∈O,b<w.heap.size):CF Try.prog 23 [.agg c_cs.toArray,l_v] w (fun v _=>v = .bool (MU c && OZ l)):= by
 have h_c:Enc.circle.rd w ([]++O) c_cs c:=h_c
 have lim_l:=h_l.len_le
 have h_l:BG Enc.share w ([]++O) l_v l:=h_l
 have s0:St w O w []:=St.start hO
 refine BQ 11 Try.func23 rfl rfl oT (fun F0=>?_)
 refine AG (?_)
 refine AB kR (AA (DO (E:=Enc.circle) (vA c_cs.toArray) (c_cs) c rfl rfl h_c s0 fun a7911 w7912 s7913 m7914 k7915 hp7916=>(?_)))
 have h_l:=h_l.mv m7914
 refine AA (AD (vO false) rfl (AF (AC (?_))))
 refine AG (?_)
 refine AB kR (AA (CR U28_ rfl BL rfl hp7916 fun cs7917 hs7918=>(AA (BB (vs:=[vA cs7917.toArray]) enter_61 (c_few (O:=[]++O) cs7917 c w7912 hs7918 s7913.lt) rfl s7913 fun v7919 w7920 s7921 m7922 k7923 r7924=>(?_)))))
 obtain rfl:=r7924
 have h_l:=h_l.mv m7922
 refine AA (AE (vO (MU c)) rfl (?_))
 cases hb7925:(MU c)
 ·have hp7926:(MU c)=false:=by simpa using hb7925
  refine AT rfl (AT rfl (AA (BX (vO false) rfl rfl (AA (AD (vO false) rfl (AF (AC (?_))))))))
  refine AP (AZ rfl (CS rfl rfl rfl) (?_))
  have e:(MU c && OZ l)=false:=by simp [*]
  exact ⟨_,rfl,s7921.keep,(by rfl)⟩
 ·have hp7927:(MU c)=true:=by simpa using hb7925
  refine BE rfl (AE (l_v) rfl (BE rfl (BB (vs:=[l_v]) enter_21 (c_few8 (O:=[]++O) l_v l w7920 h_l s7921.lt) rfl s7921 fun v7928 w7929 s7930 m7931 k7932 r7933=>(?_))))
  obtain rfl:=r7933
  refine AA (BK (vO (OZ l)) rfl rfl (AA (AD (vO (OZ l)) rfl (AF (AC (?_))))))
  refine AP (AZ rfl (CS rfl rfl rfl) (?_))
  have e:(MU c && OZ l)=(OZ l):=by simp [*]
  exact ⟨_,rfl,s7930.keep,(by rfl)⟩
open Go.Fw Go.RowKit
set_option maxHeartbeats 4000000 in
set_option maxRecDepth 100000 in
theorem QI {O:List Nat} (l_v:Value) (l:List Share) (mask:UInt8) (w:World) (h_l:BG Enc.share w O l_v l) (hpre0:l.length≤8) (hO:∀ b∈O,b<w.heap.size):CF Try.prog 25 [l_v,vB mask] w (fun v w'=>∃ (x0:Value),v=x0∧BG Enc.share w' (O) x0 (CM l mask l.length)):= by
 have lim_l:=h_l.len_le
 have h_l:BG Enc.share w ([]++O) l_v l:=h_l
 have s0:St w O w []:=St.start hO
 refine BQ 25 Try.func25 rfl rfl oT (fun F0=>?_)
 refine AG (?_)
 refine AB kR (AA (AD (.slice none 0 0) rfl (AF (AC (?_)))))
 refine AG (?_)
 refine AG (?_)
 refine AB kR (AA (AE (l_v) rfl (AA (CG U32_ rfl h_l (AA (AE (vI 0) rfl (AF (AC (?_)))))))))
 refine BR (?_)
 refine DH (fun mI FI wI=>∃ (k:Nat) (vo0_4:Value) (B:List Nat),k≤l.length∧mI=l.length - k∧(∃ F1,FI=FT F1 [(1,vB mask),(4,vo0_4),(7,l_v),(8,vI (l.length:Int)),(9,vI ((k:Nat):Int)),(25,undef)])∧St w O wI B∧EJ Enc.share 70 w.heap.size (B++O) wI vo0_4 ((CM l mask k))∧(∀ b,vo0_4.ownBlock=some b→b∈B)∧BG Enc.share wI (B++O) (l_v) (l)) (l.length - (0)) ?_ ?_
 ·exact ⟨(0),(.slice none 0 0),[],oM,rfl,⟨_,AX _ ⟨rfl,rfl,rfl,rfl,(by rfl),rfl,trivial⟩⟩,s0,(by rw [show (CM l mask (0))=[] from rfl];exact (EJ.nil Enc.share 70 _ _ _)),(by intro b hb;simp [Value.ownBlock] at hb),h_l⟩
 ·intro ml0 F wl0 hI
  clear h_l
  obtain ⟨k,vo0_4,Bl0,hr0_0,hm0,⟨Fl0,rfl⟩,sl0,ho0_4,hB0_4,h_l⟩:=hI
  refine AG (?_)
  refine AB kR (AA (DW .i64 ((k:Nat):Int) (l.length:Int) rfl rfl (AF (AC (?_)))))
  refine AG (?_)
  refine AO (decide (((k:Nat):Int)<(l.length:Int))) rfl rfl (fun hc5553=>?_) (fun hc5553=>?_)
  ·have hp5554:((k:Nat):Int)<(l.length:Int):=by simpa using hc5553
   refine AU (AC (?_))
   refine AG (?_)
   refine BR (?_)
   refine AG (?_)
   refine AB kR (AA (AE (vI ((k:Nat):Int)) rfl (AA (DI U32_ DM .i64 ((k:Nat):Int) k rfl rfl rfl h_l oM fun a5555 hp5556=>(AA (CR U70_ rfl DM rfl hp5556 fun cs5557 hs5558=>(AA (CX [vI 0,vI 0,vI 0,vI 0,nS] MT rfl sl0 fun b5559 w5560 e5565 s5561 m5562 k5563 bx5564=>(?_)))))))))
   have ne5566:∀ b,vo0_4.ownBlock=some b→b≠b5559:=fun b hb=>by have:=(ho0_4.lt b hb).2;omega
   have hB0_4:∀ b,vo0_4.ownBlock=some b→b∈(b5559 :: Bl0):=fun b hb=>List.mem_cons_of_mem _ (hB0_4 b hb)
   clear e5565
   have ho0_4:=ho0_4.mv m5562 k5563 (by simp)
   have h_l:=h_l.mv m5562
   have hs5558:Enc.share.rd w5560 ((b5559 :: Bl0)++O) cs5557 (l[k]!):=Enc.mv Enc.share (x:=l[k]!) hs5558 m5562
   refine AA (AD (vI ((k:Nat):Int)) rfl (?_))
   obtain ⟨d5572,rfl,hd5573⟩:=hs5558
   have:=hd5573.len_le
   refine BY (BC (vs:=[vI ((l[k]!).epoch),vI ((l[k]!).index),vI ((l[k]!).threshold),vI ((l[k]!).many),d5572]) (.agg #[vI ((l[k]!).epoch),vI ((l[k]!).index),vI ((l[k]!).threshold),vI ((l[k]!).many),d5572]) rfl rfl rfl DM (fun u hu=>by simp only [List.mem_cons,List.not_mem_nil,or_false] at hu;rcases hu with rfl|rfl|rfl|rfl|rfl <;> first|rfl|exact hd5573.oneCell) (by repeat (constructor)) bx5564 oT s5561 fun w5567 s5568 m5569 k5570 bx5571=>(?_))
   have ho0_4:=ho0_4.mv m5569 k5570 (fun b hb=>BH (ne5566 b hb))
   have h_l:=h_l.mv m5569
   have hd5573:=hd5573.mv m5569
   refine AF (AC (?_))
   refine AG (?_)
   refine AB kR (AA (AE (vB mask) rfl (AA (AE (vI ((k:Nat):Int)) rfl (AA (o_shr8 .i64 mask k oM rfl rfl (AA (o_and8 (mask >>> UInt8.ofNat k) (1:UInt8) rfl rfl (AA (o_eql8 ((mask >>> UInt8.ofNat k) &&& (1:UInt8)) (1:UInt8) rfl rfl (AF (AC (?_)))))))))))))
   refine AO (((mask >>> UInt8.ofNat k) &&& (1:UInt8)) == (1:UInt8)) rfl rfl (fun hc5574=>?_) (fun hc5574=>?_)
   ·have hp5575:(mask >>> UInt8.ofNat k) &&& (1:UInt8)=(1:UInt8):=by simpa using hc5574
    refine AB kR (AA (AE (vo0_4) rfl (AA (BN (vs:=[vI ((l[k]!).epoch),vI ((l[k]!).index),vI ((l[k]!).threshold),vI ((l[k]!).many),d5572]) U70_ rfl DM rfl bx5571 rfl (AA (IK (E:=Enc.share) (xs:=[.tmp 20]) U32_ DM MT (by decide) [.agg #[vI ((l[k]!).epoch),vI ((l[k]!).index),vI ((l[k]!).threshold),vI ((l[k]!).many),d5572]] [[vI ((l[k]!).epoch),vI ((l[k]!).index),vI ((l[k]!).threshold),vI ((l[k]!).many),d5572]] [(l[k]!)] rfl rfl rfl (Parts.cons rfl ⟨_,rfl,hd5573⟩ (Parts.nil _ _ _)) oT s5568 fun v5580 w5576 s5577 m5578 k5579 hl5581=>(?_)))))))
    have ho0_4:=ho0_4.mv m5578 k5579 (by simp)
    have h_l:=h_l.mv m5578
    have bx5571:=bx5571.keep k5579 (by simp)
    have:=hl5581.len_le
    refine AA (DG (E:=Enc.share) (l:=(CM l mask k)) (m:=[(l[k]!)]) U32_ i_70 rfl (by decide) rfl rfl ho0_4 hl5581 (fun _ hb=>.inl hb) hB0_4 (by have:=HG l mask k;simp;omega) (by have:=HG l mask k;simp [maxLen];omega) s5577 fun v5586 w5582 B5588 hB5589 at5590 sub5591 s5583 m5584 k5585 ho5587=>(?_))
    have ne5592:∀ b,v5586.ownBlock=some b→b≠b5559:=fun b hb=>by rcases at5590 with e1|e1 <;> rw [e1] at hb <;> first|(cases hb;have:=bx5571.lt;omega)|(exact ne5566 b hb)
    have hin_b5559:b5559∈B5588:=sub5591 b5559 (by repeat (constructor))
    have h_l:=h_l.mv m5584
    refine AA (AD (v5586) rfl (AF (CI (AC (?_)))))
    refine AB kR (AA (DC .i64 ((k:Nat):Int) (1:Int) (((k+1:Nat):Int)) rfl rfl (FO oM oM) (AA (AE (vI ((k+1:Nat):Int)) rfl (AF (AC (?_)))))))
    exact ⟨_,oM,(k+1),v5586,B5588,oM,rfl,⟨_,AX _ ⟨rfl,rfl,rfl,rfl,(by rfl),rfl,trivial⟩⟩,s5583,(by rw [show (CM l mask (k+1))=(CM l mask k)++([(l[k]!)]) from by exact someM_hit oM aS];exact ho5587),hB5589,h_l⟩
   ·have hp5593:(mask >>> UInt8.ofNat k) &&& (1:UInt8)≠(1:UInt8):=by simpa using hc5574
    refine AU (CI (AC (?_)))
    refine AB kR (AA (DC .i64 ((k:Nat):Int) (1:Int) (((k+1:Nat):Int)) rfl rfl (FO oM oM) (AA (AE (vI ((k+1:Nat):Int)) rfl (AF (AC (?_)))))))
    exact ⟨_,oM,(k+1),vo0_4,(b5559 :: Bl0),oM,rfl,⟨_,AX _ ⟨rfl,rfl,rfl,rfl,(by rfl),rfl,trivial⟩⟩,s5568,(by rw [show (CM l mask (k+1))=(CM l mask k) from by exact someM_miss (fun hq=>absurd hq.2 aS)];exact ho0_4),hB0_4,h_l⟩
  ·have hp5594:(l.length:Int)≤((k:Nat):Int):=by simpa using hc5553
   obtain rfl:k=l.length:=by omega
   refine DE (CC (CC (CY (AC (?_)))))
   refine AG (?_)
   refine AB kR (AA (AE (vo0_4) rfl (AA (AD (vo0_4) rfl (AF (AC (?_)))))))
   refine AP (AZ rfl (CS rfl rfl rfl) (?_))
   exact ⟨_,rfl,sl0.keep,⟨vo0_4,rfl,ho0_4.pub sl0⟩⟩
set_option maxHeartbeats 4000000 in
set_option maxRecDepth 100000 in
theorem c_highest {O:List Nat} (a:UInt8) (w:World) (hO:∀ b∈O,b<w.heap.size):CF Try.prog 29 [vB a] w (fun v _=>v=vI ((EB a 8:Nat):Int)):= by
 have s0:St w O w []:=St.start hO
 refine BQ 16 Try.func29 rfl rfl oT (fun F0=>?_)
 refine AG (?_)
 refine AB kR (AA (AD (vI 0) rfl (AF (AC (?_)))))
 refine AG (?_)
 refine AB kR (AA (AD (vI 0) rfl (AF (AC (?_)))))
 refine AG (?_)
 refine AG (?_)
 refine AB kR (AA (AE (vI 0) rfl (AF (AC (?_)))))
 refine BR (?_)
 refine DH (fun mI FI wI=>∃ (k:Nat),k≤8∧mI=8 - k∧(∃ F1,FI=FT F1 [(0,vB a),(3,vI ((EB a k:Nat):Int)),(5,vI ((k:Nat):Int)),(16,undef)])∧w=wI) (8 - (0)) ?_ ?_
 ·exact ⟨(0),oM,rfl,⟨_,AX _ ⟨rfl,(by rfl),(by rfl),rfl,trivial⟩⟩,rfl⟩
 ·rintro ml0 F wl0 ⟨k,hr0_0,hm0,⟨Fl0,rfl⟩,rfl⟩
  refine AG (?_)
  refine AB kR (AA (DW .i64 ((k:Nat):Int) (8:Int) rfl rfl (AF (AC (?_)))))
  refine AG (?_)
  refine AO (decide (((k:Nat):Int)<(8:Int))) rfl rfl (fun hc5595=>?_) (fun hc5595=>?_)
  ·have hp5596:((k:Nat):Int)<(8:Int):=by simpa using hc5595
   refine AU (AC (?_))
   refine AG (?_)
   refine BR (?_)
   refine AG (?_)
   refine AB kR (AA (AE (vI ((k:Nat):Int)) rfl (AA (AD (vI ((k:Nat):Int)) rfl (AF (AC (?_)))))))
   refine AG (?_)
   refine AB kR (AA (AE (vB a) rfl (AA (AE (vI ((k:Nat):Int)) rfl (AA (o_shr8 .i64 a k oM rfl rfl (AA (o_and8 (a >>> UInt8.ofNat k) (1:UInt8) rfl rfl (AA (o_eql8 ((a >>> UInt8.ofNat k) &&& (1:UInt8)) (1:UInt8) rfl rfl (AF (AC (?_)))))))))))))
   refine AO (((a >>> UInt8.ofNat k) &&& (1:UInt8)) == (1:UInt8)) rfl rfl (fun hc5597=>?_) (fun hc5597=>?_)
   ·have hp5598:(a >>> UInt8.ofNat k) &&& (1:UInt8)=(1:UInt8):=by simpa using hc5597
    refine AB kR (AA (AE (vI ((k:Nat):Int)) rfl (AA (AD (vI ((k:Nat):Int)) rfl (AF (CI (AC (?_))))))))
    refine AB kR (AA (DC .i64 ((k:Nat):Int) (1:Int) (((k+1:Nat):Int)) rfl rfl (FO oM oM) (AA (AE (vI ((k+1:Nat):Int)) rfl (AF (AC (?_)))))))
    exact ⟨_,oM,(k+1),oM,rfl,⟨_,AX _ ⟨rfl,(by exact congrArg (Value.int _) (by ((rw [high_y aS];done)))),(by rfl),rfl,trivial⟩⟩,rfl⟩
   ·have hp5599:(a >>> UInt8.ofNat k) &&& (1:UInt8)≠(1:UInt8):=by simpa using hc5597
    refine AU (CI (AC (?_)))
    refine AB kR (AA (DC .i64 ((k:Nat):Int) (1:Int) (((k+1:Nat):Int)) rfl rfl (FO oM oM) (AA (AE (vI ((k+1:Nat):Int)) rfl (AF (AC (?_)))))))
    exact ⟨_,oM,(k+1),oM,rfl,⟨_,AX _ ⟨rfl,(by exact congrArg (Value.int _) (by ((rw [high_n aS];done)))),(by rfl),rfl,trivial⟩⟩,rfl⟩
  ·have hp5600:(8:Int)≤((k:Nat):Int):=by simpa using hc5595
   obtain rfl:k=8:=by omega
   refine DE (CC (CC (CY (AC (?_)))))
   refine AG (?_)
   refine AB kR (AA (AE (vI ((EB a 8:Nat):Int)) rfl (AA (AD (vI ((EB a 8:Nat):Int)) rfl (AF (AC (?_)))))))
   refine AP (AZ rfl (CS rfl rfl rfl) (?_))
   exact ⟨_,rfl,s0.keep,rfl⟩
open Go.Fw
section
variable {c x:Circle} {no:Int} {l m:List Share} {secret more next:List UInt8} {others:List Int} {t:Int}
structure KeptI (secret:List UInt8) (no:Int) (x:Circle) (m:List Share):Prop where
  held:Held secret x m
  n0:0≤no
  n1:no<(x.recs.length:Int)
  st:x.recs[no.toNat]!.state=1
theorem KeptI.len8 (h:KeptI secret no x m):m.length≤8:=h.held.spl.len8
theorem VT (hl:Held secret c l) (h:(AK c l more).2.2=0):Spl secret (c.epoch+1) c.threshold (c.guardians.length:Int) (AK c l more).2.1:=by
  have:=(TI hl h).spl
  have e:=TK h
  rw [show (AK c l more).1 = ⟨c.epoch+1,c.threshold,c.wait,c.guardians,c.recs⟩ by rw [e.2.2.2]] at this
  exact this
theorem renew_len (hl:Held secret c l):(AK c l more).2.1.length≤8:=by
  by_cases h:(AK c l more).2.2=0
  · exact (VT hl h).len8
  · by_cases h1:AS c=0
    · by_cases h2:CD c l=0
      · by_cases h3:(CN l more).2=0
        · rw [PK h1 h2 h3] at h;exact absurd rfl h
        · rw [PU h1 h2 h3];simp
      · rw [NZ h1 h2];simp
    · rw [QP h1];simp
structure OldC (c:Circle) (l:List Share) (x:Circle):Prop where
  ok:AS x=0
  ep:x.epoch=c.epoch+1
  bel:CD x l=460
theorem old_renew (hl:Held secret c l) (h:(AK c l more).2.2=0):OldC c l (AK c l more).1:=by
  have he:(AK c l more).1.epoch=c.epoch+1:=by rw [(TK h).2.2.2]
  exact ⟨(TI hl h).ok,he,hl.spl.strange (by rw [he];omega)⟩
theorem old_replace (hl:Held secret c l) (h:(AJ c l others t next).2.2=0):OldC c l (AJ c l others t next).1:=by
  have he:(AJ c l others t next).1.epoch=c.epoch+1:=by rw [(UM h).2.2.2.2];rfl
  exact ⟨(held_replace hl h).ok,he,hl.spl.strange (by rw [he];omega)⟩
theorem OldC.r1 (h:OldC c l x) (more:List UInt8):(AK x l more).2.2=460:=by rw [NZ h.ok (by rw [h.bel];decide),h.bel]
theorem OldC.r2 (h:OldC c l x) (others:List Int) (t:Int) (next:List UInt8):(AJ x l others t next).2.2=460:=by rw [LV h.ok (by rw [h.bel];decide),h.bel]
theorem OldC.r3 (h:OldC c l x) (hd:(CL x).2.2=true):(BS (CL x).1 (CL x).2.1 l).2=460:=by
  obtain ⟨_,g,hs⟩:=done_grown hd
  have hf:FA (CL x).1=FA x:=by funext s;unfold FA;rw [g.ep,g.th,g.gu]
  have hb:CD (CL x).1 l=460:=by unfold CD;rw [hf];exact h.bel
  rw [rest_5 g.ok g.n0 g.n1 (by rw [hs];decide) (by rw [hs];decide) (by rw [hb];decide),hb]
theorem old_at (hl:Held secret c l) {k:Nat} (hk:k<2) (h1:k=0→(AK c l more).2.2=0) (h2:k=1→(AJ c l others t next).2.2=0):OldC c l ([(AK c l more).1,(AJ c l others t next).1][k]!):=by
  have:k=0∨k=1:=by omega
  rcases this with rfl|rfl
  · exact old_renew hl (h1 rfl)
  · exact old_replace hl (h2 rfl)
end
theorem NF {α:Type} [Inhabited α] {l m:List α} {k:Nat} (h:k<l.length):(l++m)[k]! = l[k]!:=by
  rw [getElem!_pos (l++m) k (by rw [List.length_append];omega),List.getElem_append_left h,← getElem!_pos l k h]
theorem NB {α:Type} [Inhabited α] {l m:List α} {k:Nat} (h:l.length≤k) (h2:k<l.length+m.length):(l++m)[k]! = m[k - l.length]!:=by
  rw [getElem!_pos (l++m) k (by rw [List.length_append];omega),List.getElem_append_right h,← getElem!_pos m (k - l.length) (by omega)]
theorem high_lt (a:UInt8):∀ k,k≤8→EB a k<8
  | 0,_=>by show 0<8;omega
  | k+1,h=>by
    by_cases c:a >>> UInt8.ofNat k &&& 1=1
    · rw [high_y c];omega
    · rw [high_n c];exact high_lt a k (by omega)
theorem high_ge (a:UInt8):∀ k i,i<k→a >>> UInt8.ofNat i &&& 1=1→i≤EB a k
  | 0,i,h,_=>by omega
  | k+1,i,h,hs=>by
    by_cases c:a >>> UInt8.ofNat k &&& 1=1
    · rw [high_y c];omega
    · rw [high_n c]
      by_cases e:i=k
      · subst e;exact absurd hs c
      · exact high_ge a k i (by omega) hs
abbrev MD (b:UInt8) (h:Nat):UInt8:=b &&& ~~~((2:UInt8) <<< UInt8.ofNat h - 1)
theorem above_bit:∀ h:Fin 8,∀ i:Fin 8,i.val≤h.val→∀ b:Fin 256,((UInt8.ofNat b.val) &&& ~~~((2:UInt8) <<< UInt8.ofNat h.val - 1)) >>> UInt8.ofNat i.val &&& 1=0:=by decide +kernel
theorem above_sel {b:UInt8} {h i:Nat} (hh:h<8) (hs:selB (MD b h) i=true):h<i:=by
  unfold selB MD at hs
  simp only [Bool.and_eq_true,decide_eq_true_eq,beq_iff_eq] at hs
  rcases Nat.lt_or_ge h i with c|c
  · exact c
  · have:=above_bit ⟨h,hh⟩ ⟨i,hs.1⟩ c ⟨b.toNat,b.toNat_lt⟩
    simp only [UInt8.ofNat_toNat] at this
    rw [this] at hs
    exact absurd hs.2 (by decide)
theorem selL_mem {mask:UInt8} {n j:Nat} (h:j<(KS mask n).length):selB mask (KS mask n)[j]! = true:=by
  have:=List.getElem_mem h
  rw [← getElem!_pos (KS mask n) j h] at this
  unfold KS at this
  exact (List.mem_filter.1 this).2
theorem some_idx {secret:List UInt8} {ep t m:Int} {l:List Share} (hl:Spl secret ep t m l) {mask:UInt8} {j:Nat} (hj:j<(CM l mask l.length).length):(CM l mask l.length)[j]!.index=((KS mask l.length)[j]!:Int)+1:=by
  rw [GZ hj]
  rw [IS] at hj
  exact hl.full.2 _ (selL_lt hj)
theorem mixed_old {s1 s2:List UInt8} {ep ep' t m:Int} {l y:List Share} (hl:Spl s1 ep t m l) (hy:Spl s2 ep' t m y) (he:ep≠ep') (hs:s2.length=s1.length) {a b:UInt8}
    (ha:0<(CM l a l.length).length) (hb:0<(CM y (MD b (EB a 8)) y.length).length):CO (CM l a l.length++CM y (MD b (EB a 8)) y.length)=([],81):=by
  obtain ⟨P,p1,_⟩:=hl.ex
  obtain ⟨Q,q1,_⟩:=hy.ex
  have po:=p1.some a
  have qn:=q1.some (MD b (EB a 8))
  have io:=fun j hj=>some_idx hl (mask:=a) (j:=j) hj
  have iy:=fun j hj=>some_idx hy (mask:=MD b (EB a 8)) (j:=j) hj
  have so:=fun j (hj:j<(CM l a l.length).length)=>selL_mem (mask:=a) (n:=l.length) (j:=j) (by rw [IS] at hj;exact hj)
  have sn:=fun j (hj:j<(CM y (MD b (EB a 8)) y.length).length)=>selL_mem (mask:=MD b (EB a 8)) (n:=y.length) (j:=j) (by rw [IS] at hj;exact hj)
  have hh:=high_lt a 8 (Nat.le_refl 8)
  generalize hO:CM l a l.length=o at *
  generalize hN:CM y (MD b (EB a 8)) y.length=n at *
  have hlen:(o++n).length=o.length+n.length:=List.length_append
  have g0:(o++n)[0]! = o[0]!:=NF ha
  have key:∀ k,k<(o++n).length→(o++n)[k]!.threshold=t∧(o++n)[k]!.many=m∧(o++n)[k]!.data.length=s1.length∧1≤(o++n)[k]!.index∧(o++n)[k]!.index≤m:=by
    intro k hk
    rw [hlen] at hk
    by_cases c:k<o.length
    · rw [NF c]
      exact ⟨po.th k c,po.ma k c,po.da k c,(po.ix k c).1,(po.ix k c).2⟩
    · rw [NB (by omega) hk]
      have c2:k - o.length<n.length:=by omega
      exact ⟨qn.th _ c2,qn.ma _ c2,by rw [qn.da _ c2,hs],(qn.ix _ c2).1,(qn.ix _ c2).2⟩
  have k0:=key 0 (by rw [hlen];omega)
  have hg:Good (o++n):=by
    have h1:=hl.num.t1;have h2:=hl.num.tm;have h3:=hl.num.m8;have h4:=hl.num.n64
    refine ⟨by rw [hlen];omega,by omega,by omega,by omega,by omega,fun k hk=>?_,fun k hk=>?_,fun k hk=>?_,fun k hk=>?_,fun k hk=>?_⟩
    · rw [(key k hk).1,k0.1]
    · rw [(key k hk).2.1,k0.2.1]
    · rw [(key k hk).2.2.1,k0.2.2.1]
    · rw [k0.2.1];exact (key k hk).2.2.2
    · rw [hlen] at hk
      by_cases c:k+1<o.length
      · rw [NF (by omega),NF c];exact po.inc k (k+1) (by omega) c
      · by_cases c2:k<o.length
        · rw [NF c2,NB (by omega) (by omega),io k c2,iy _ (by omega)]
          have h1:=so k c2
          have h2:=above_sel hh (sn (k+1 - o.length) (by omega))
          unfold selB at h1
          simp only [Bool.and_eq_true,decide_eq_true_eq,beq_iff_eq] at h1
          have h3:=high_ge a 8 _ h1.1 h1.2
          omega
        · rw [NB (by omega) (by omega),NB (by omega) (by omega)]
          exact qn.inc _ _ (by omega) (by omega)
  have hal:=(RK _).2 hg
  have hck:BP (o++n)=81:=by
    have hne:BP (o++n)≠0:=fun e=>by
      have hv:=(EN _).1 e
      have:=hv.ep o.length (by rw [hlen];omega)
      rw [NB (Nat.le_refl _) (by omega),g0,po.ep 0 ha,Nat.sub_self,qn.ep 0 hb] at this
      exact he this.symm
    have h80:BP (o++n)≠80:=fun e=>by
      unfold BP at e
      rw [hal,if_neg (by simp)] at e
      rcases MF (f:=fun k=>if ep1 (o++n) k then some (81:Int) else none) (d:=(0:Int)) (r:=81) (fun k=>by by_cases c:ep1 (o++n) k=true <;> simp [c]) ((o++n).length - 0) 0 with ⟨h1,_⟩|⟨h1,_⟩
      · rw [h1] at e;cases e
      · rw [h1] at e;cases e
    rcases check_cases (o++n) with h|h|h
    · exact absurd h hne
    · exact absurd h h80
    · exact h
  exact VP (by rw [hck];decide) hck
open Go.Fw Go.RowKit
set_option maxHeartbeats 4000000 in
set_option maxRecDepth 100000 in
theorem c_RenewalOld {O:List Nat} (c_cs:List Value) (c:Circle) (secret_v:Value) (secret:List UInt8) (coins_v:Value) (coins:List UInt8) (more_v:Value) (more:List UInt8) (others_v:Value) (others:List Int) (threshold:Int) (next_v:Value) (next:List UInt8) (pa:UInt8) (pb:UInt8) (w:World) (h_c:Enc.circle.rd w O c_cs c) (h_secret:BG Enc.u8 w O secret_v secret) (h_coins:BG Enc.u8 w O coins_v coins) (h_more:BG Enc.u8 w O more_v more) (h_others:BG Enc.int w O others_v others) (h_next:BG Enc.u8 w O next_v next) (hO:∀ b∈O,b<w.heap.size):CF Try.prog 7 [.agg c_cs.toArray,secret_v,coins_v,more_v,others_v,vI threshold,next_v,vB pa,vB pb] w (fun v _=>v = .bool (true)):= by
 have h_c:Enc.circle.rd w ([]++O) c_cs c:=h_c
 have lim_secret:=h_secret.len_le
 have h_secret:BG Enc.u8 w ([]++O) secret_v secret:=h_secret
 have lim_coins:=h_coins.len_le
 have h_coins:BG Enc.u8 w ([]++O) coins_v coins:=h_coins
 have lim_more:=h_more.len_le
 have h_more:BG Enc.u8 w ([]++O) more_v more:=h_more
 have lim_others:=h_others.len_le
 have h_others:BG Enc.int w ([]++O) others_v others:=h_others
 have lim_next:=h_next.len_le
 have h_next:BG Enc.u8 w ([]++O) next_v next:=h_next
 have s0:St w O w []:=St.start hO
 refine BQ 199 Try.func7 rfl rfl oT (fun F0=>?_)
 refine AG (?_)
 refine AB kR (AA (DO (E:=Enc.circle) (vA c_cs.toArray) (c_cs) c rfl rfl h_c s0 fun a8681 w8682 s8683 m8684 k8685 hp8686=>(?_)))
 have h_secret:=h_secret.mv m8684
 have h_coins:=h_coins.mv m8684
 have h_more:=h_more.mv m8684
 have h_others:=h_others.mv m8684
 have h_next:=h_next.mv m8684
 refine AA (AD (vO false) rfl (AF (AC (?_))))
 refine AG (?_)
 refine AG (?_)
 refine AB kR (AA (BB (vs:=[]) enter_20 (c_sane46 (O:=[]++O) w8682 s8683.lt) rfl s8683 fun v8687 w8688 s8689 m8690 k8691 r8692=>(?_)))
 obtain rfl:=r8692
 have h_secret:=h_secret.mv m8690
 have h_coins:=h_coins.mv m8690
 have h_more:=h_more.mv m8690
 have h_others:=h_others.mv m8690
 have h_next:=h_next.mv m8690
 have hp8686:=hp8686.mv m8690
 refine AA (HC true rfl (AF (AC (?_))))
 refine AO false rfl rfl (fun h=>by cases h) (fun _=>?_)
 refine AU (AC (?_))
 refine AG (?_)
 refine AG (?_)
 refine AB kR (AA (CR U28_ rfl BL rfl hp8686 fun cs8693 hs8694=>(AA (BB (vs:=[vA cs8693.toArray,nS]) enter_23 (c_few46 (O:=[]++O) cs8693 c (.slice none 0 0) [] w8688 hs8694 (BG.nil _ _ _) s8689.lt) rfl s8689 fun v8695 w8696 s8697 m8698 k8699 r8700=>(?_)))))
 obtain rfl:=r8700
 have h_secret:=h_secret.mv m8698
 have h_coins:=h_coins.mv m8698
 have h_more:=h_more.mv m8698
 have h_others:=h_others.mv m8698
 have h_next:=h_next.mv m8698
 have hp8686:=hp8686.mv m8698
 refine AA (HC (MU c && OZ ([])) rfl (AA (AE (vO (!(MU c && OZ ([])))) rfl (?_))))
 cases hb8701:(!(MU c && OZ ([])))
 ·have hp8702:(MU c && OZ ([]))=true:=by simpa using hb8701
  refine BE rfl (AE (secret_v) rfl (BE rfl (CG U23_ rfl h_secret (BE rfl (FW .i64 (secret.length:Int) (20:Int) rfl rfl (AA (BX (vO (decide ((20:Int)<(secret.length:Int)))) rfl rfl (AA (AE (vO (decide ((20:Int)<(secret.length:Int)))) rfl (?_))))))))))
  cases hb8703:(decide ((20:Int)<(secret.length:Int)))
  ·have hp8704:(secret.length:Int)≤(20:Int):=by simpa using hb8703
   refine BE rfl (AE (coins_v) rfl (BE rfl (CG U23_ rfl h_coins (BE rfl (FW .i64 (coins.length:Int) (200:Int) rfl rfl (AA (BX (vO (decide ((200:Int)<(coins.length:Int)))) rfl rfl (AA (AE (vO (decide ((200:Int)<(coins.length:Int)))) rfl (?_))))))))))
   cases hb8705:(decide ((200:Int)<(coins.length:Int)))
   ·have hp8706:(coins.length:Int)≤(200:Int):=by simpa using hb8705
    refine BE rfl (AE (others_v) rfl (BE rfl (CG U22_ rfl h_others (BE rfl (FW .i64 (others.length:Int) (20:Int) rfl rfl (AA (BX (vO (decide ((20:Int)<(others.length:Int)))) rfl rfl (AF (AC (?_))))))))))
    refine AO (decide ((20:Int)<(others.length:Int))) rfl rfl (fun hc8707=>?_) (fun hc8707=>?_)
    ·have hp8708:(20:Int)<(others.length:Int):=by simpa using hc8707
     refine AG (?_)
     refine AB kR (AA (AD (vO true) rfl (AF (AC (?_)))))
     refine AP (AR (AZ rfl (CS rfl rfl rfl) (?_)))
     exact ⟨_,rfl,s8697.keep,rfl⟩
    ·have hp8709:(others.length:Int)≤(20:Int):=by simpa using hc8707
     refine AU (AC (?_))
     refine AG (?_)
     refine AB kR (AA (CR U28_ rfl BL rfl hp8686 fun cs8710 hs8711=>(AA (AE (secret_v) rfl (AA (AE (coins_v) rfl (AA (BB (vs:=[vA cs8710.toArray,secret_v,coins_v]) NA (SV (O:=[]++O) cs8710 c secret_v secret coins_v coins w8696 hs8711 h_secret h_coins s8697.lt) rfl s8697 fun v8712 w8713 s8714 m8715 k8716 r8717=>(?_)))))))))
     obtain ⟨x8718,rfl,hl8719⟩:=r8717
     have:=hl8719.len_le
     have h_more:=h_more.mv m8715
     have h_others:=h_others.mv m8715
     have h_next:=h_next.mv m8715
     have hp8686:=hp8686.mv m8715
     refine AA (AE (vT #[x8718,vI ((AM c secret coins).2)]) rfl (AA (AN (x8718) rfl rfl (AA (AN (vI ((AM c secret coins).2)) rfl rfl (AA (AD (x8718) rfl (AA (AD (vI ((AM c secret coins).2)) rfl (AF (AC (?_))))))))))))
     refine AG (?_)
     refine AG (?_)
     refine AB kR (AA (AE (vI ((AM c secret coins).2)) rfl (AA (CV .i64 ((AM c secret coins).2) (0:Int) rfl rfl (AF (AC (?_)))))))
     refine AO (((AM c secret coins).2) != (0:Int)) rfl rfl (fun hc8720=>?_) (fun hc8720=>?_)
     ·have hp8721:(AM c secret coins).2≠(0:Int):=by simpa using hc8720
      refine AG (?_)
      refine AB kR (AA (AD (vO true) rfl (AF (AC (?_)))))
      refine AP (AR (AZ rfl (CS rfl rfl rfl) (?_)))
      exact ⟨_,rfl,s8714.keep,rfl⟩
     ·have hp8722:(AM c secret coins).2=(0:Int):=by simpa using hc8720
      have hdl:(AM c secret coins).2=0:=hp8722
      have hhd:=VK hdl
      have hL8:=hhd.spl.len8
      have hY8:=renew_len (more:=more) hhd
      have hepb:=circ_ep hhd.ok
      refine AU (AC (?_))
      refine AG (?_)
      refine AB kR (AA (CR U28_ rfl BL rfl hp8686 fun cs8723 hs8724=>(AA (AE (x8718) rfl (AA (AE (more_v) rfl (AA (BB (vs:=[vA cs8723.toArray,x8718,more_v]) PS (SK (O:=[]++O) cs8723 c x8718 ((AM c secret coins).1) more_v more w8713 hs8724 hl8719 h_more s8714.lt) rfl s8714 fun v8725 w8726 s8727 m8728 k8729 r8730=>(?_)))))))))
      obtain ⟨cs8731,x8733,rfl,hs8732,hl8734⟩:=r8730
      have:=hl8734.len_le
      have h_more:=h_more.mv m8728
      have h_others:=h_others.mv m8728
      have h_next:=h_next.mv m8728
      have hp8686:=hp8686.mv m8728
      have hl8719:=hl8719.mv m8728
      refine AA (AE (vT #[vA cs8731.toArray,x8733,vI ((AK c ((AM c secret coins).1) more).2.2)]) rfl (AA (AN (vA cs8731.toArray) rfl rfl (AA (AN (x8733) rfl rfl (AA (AN (vI ((AK c ((AM c secret coins).1) more).2.2)) rfl rfl (AA (CX [vI 0,vI 0,vI 0,nS,nS] II rfl s8727 fun b8735 w8736 e8741 s8737 m8738 k8739 bx8740=>(?_))))))))))
      clear e8741
      have h_more:=h_more.mv m8738
      have h_others:=h_others.mv m8738
      have h_next:=h_next.mv m8738
      have hp8686:=hp8686.mv m8738
      have hl8719:=hl8719.mv m8738
      have hs8732:Enc.circle.rd w8736 ((b8735 :: [])++O) cs8731 ((AK c ((AM c secret coins).1) more).1):=Enc.mv Enc.circle (x:=(AK c ((AM c secret coins).1) more).1) hs8732 m8738
      have hl8734:=hl8734.mv m8738
      obtain ⟨d8747,d8749,rfl,hd8748,hd8750⟩:=hs8732
      have:=hd8748.len_le
      have:=hd8750.len_le
      refine BY (BC (vs:=[vI (((AK c ((AM c secret coins).1) more).1).epoch),vI (((AK c ((AM c secret coins).1) more).1).threshold),vI (((AK c ((AM c secret coins).1) more).1).wait),d8747,d8749]) (.agg #[vI (((AK c ((AM c secret coins).1) more).1).epoch),vI (((AK c ((AM c secret coins).1) more).1).threshold),vI (((AK c ((AM c secret coins).1) more).1).wait),d8747,d8749]) rfl rfl rfl BL (fun u hu=>by simp only [List.mem_cons,List.not_mem_nil,or_false] at hu;rcases hu with rfl|rfl|rfl|rfl|rfl <;> first|rfl|exact hd8748.oneCell|exact hd8750.oneCell) (by repeat (constructor)) bx8740 oT s8737 fun w8742 s8743 m8744 k8745 bx8746=>(?_))
      have h_more:=h_more.mv m8744
      have h_others:=h_others.mv m8744
      have h_next:=h_next.mv m8744
      have hp8686:=hp8686.mv m8744
      have hl8719:=hl8719.mv m8744
      have hl8734:=hl8734.mv m8744
      have hd8748:=hd8748.mv m8744
      have hd8750:=hd8750.mv m8744
      refine AA (AD (x8733) rfl (AA (AD (vI ((AK c ((AM c secret coins).1) more).2.2)) rfl (AF (AC (?_))))))
      refine AG (?_)
      refine AB kR (AA (CR U28_ rfl BL rfl hp8686 fun cs8751 hs8752=>(AA (AE (x8718) rfl (AA (AE (others_v) rfl (AA (AE (vI threshold) rfl (AA (AE (next_v) rfl (AA (BB (vs:=[vA cs8751.toArray,x8718,others_v,vI threshold,next_v]) UL (RE (O:=(b8735 :: [])++O) cs8751 c x8718 ((AM c secret coins).1) others_v others threshold next_v next w8742 hs8752 hl8719 h_others h_next oM s8743.lt) rfl s8743 fun v8753 w8754 s8755 m8756 k8757 r8758=>(?_)))))))))))))
      obtain ⟨cs8759,x8761,rfl,hs8760,hl8762⟩:=r8758
      have:=hl8762.len_le
      have h_more:=h_more.mv m8756
      have h_others:=h_others.mv m8756
      have h_next:=h_next.mv m8756
      have hp8686:=hp8686.mv m8756
      have hl8719:=hl8719.mv m8756
      have hl8734:=hl8734.mv m8756
      have hd8748:=hd8748.mv m8756
      have hd8750:=hd8750.mv m8756
      have bx8746:=bx8746.keep k8757 (by simp)
      refine AA (AE (vT #[vA cs8759.toArray,x8761,vI ((AJ c ((AM c secret coins).1) others threshold next).2.2)]) rfl (AA (AN (vA cs8759.toArray) rfl rfl (AA (AN (x8761) rfl rfl (AA (AN (vI ((AJ c ((AM c secret coins).1) others threshold next).2.2)) rfl rfl (AA (CX [vI 0,vI 0,vI 0,nS,nS] II rfl s8755 fun b8763 w8764 e8769 s8765 m8766 k8767 bx8768=>(?_))))))))))
      have ne8770:FH b8735 b8763:=by show b8735≠b8763;have:=bx8746.lt;omega
      clear e8769
      have h_more:=h_more.mv m8766
      have h_others:=h_others.mv m8766
      have h_next:=h_next.mv m8766
      have hp8686:=hp8686.mv m8766
      have hl8719:=hl8719.mv m8766
      have hl8734:=hl8734.mv m8766
      have hd8748:=hd8748.mv m8766
      have hd8750:=hd8750.mv m8766
      have hs8760:Enc.circle.rd w8764 ((b8763 :: (b8735 :: []))++O) cs8759 ((AJ c ((AM c secret coins).1) others threshold next).1):=Enc.mv Enc.circle (x:=(AJ c ((AM c secret coins).1) others threshold next).1) hs8760 m8766
      have bx8746:=bx8746.keep k8767 (by simp)
      obtain ⟨d8776,d8778,rfl,hd8777,hd8779⟩:=hs8760
      have:=hd8777.len_le
      have:=hd8779.len_le
      refine BY (BC (vs:=[vI (((AJ c ((AM c secret coins).1) others threshold next).1).epoch),vI (((AJ c ((AM c secret coins).1) others threshold next).1).threshold),vI (((AJ c ((AM c secret coins).1) others threshold next).1).wait),d8776,d8778]) (.agg #[vI (((AJ c ((AM c secret coins).1) others threshold next).1).epoch),vI (((AJ c ((AM c secret coins).1) others threshold next).1).threshold),vI (((AJ c ((AM c secret coins).1) others threshold next).1).wait),d8776,d8778]) rfl rfl rfl BL (fun u hu=>by simp only [List.mem_cons,List.not_mem_nil,or_false] at hu;rcases hu with rfl|rfl|rfl|rfl|rfl <;> first|rfl|exact hd8777.oneCell|exact hd8779.oneCell) (by repeat (constructor)) bx8768 oT s8765 fun w8771 s8772 m8773 k8774 bx8775=>(?_))
      have h_more:=h_more.mv m8773
      have h_others:=h_others.mv m8773
      have h_next:=h_next.mv m8773
      have hp8686:=hp8686.mv m8773
      have hl8719:=hl8719.mv m8773
      have hl8734:=hl8734.mv m8773
      have hd8748:=hd8748.mv m8773
      have hd8750:=hd8750.mv m8773
      have hd8777:=hd8777.mv m8773
      have hd8779:=hd8779.mv m8773
      have bx8746:=bx8746.keep k8774 (BH ne8770)
      refine AA (AD (x8761) rfl (AA (AD (vI ((AJ c ((AM c secret coins).1) others threshold next).2.2)) rfl (AF (AC (?_))))))
      refine AG (?_)
      refine AG (?_)
      refine AB kR (AA (BN (vs:=[vI (((AK c ((AM c secret coins).1) more).1).epoch),vI (((AK c ((AM c secret coins).1) more).1).threshold),vI (((AK c ((AM c secret coins).1) more).1).wait),d8747,d8749]) U28_ rfl BL rfl bx8746 rfl (AA (BN (vs:=[vI (((AJ c ((AM c secret coins).1) others threshold next).1).epoch),vI (((AJ c ((AM c secret coins).1) others threshold next).1).threshold),vI (((AJ c ((AM c secret coins).1) others threshold next).1).wait),d8776,d8778]) U28_ rfl BL rfl bx8775 rfl (AA (IK (E:=Enc.circle) (xs:=[.tmp 90, .tmp 91]) U62_ BL II (by decide) [.agg #[vI (((AK c ((AM c secret coins).1) more).1).epoch),vI (((AK c ((AM c secret coins).1) more).1).threshold),vI (((AK c ((AM c secret coins).1) more).1).wait),d8747,d8749], .agg #[vI (((AJ c ((AM c secret coins).1) others threshold next).1).epoch),vI (((AJ c ((AM c secret coins).1) others threshold next).1).threshold),vI (((AJ c ((AM c secret coins).1) others threshold next).1).wait),d8776,d8778]] [[vI (((AK c ((AM c secret coins).1) more).1).epoch),vI (((AK c ((AM c secret coins).1) more).1).threshold),vI (((AK c ((AM c secret coins).1) more).1).wait),d8747,d8749],[vI (((AJ c ((AM c secret coins).1) others threshold next).1).epoch),vI (((AJ c ((AM c secret coins).1) others threshold next).1).threshold),vI (((AJ c ((AM c secret coins).1) others threshold next).1).wait),d8776,d8778]] [((AK c ((AM c secret coins).1) more).1),((AJ c ((AM c secret coins).1) others threshold next).1)] rfl rfl rfl (Parts.cons rfl ⟨_,_,rfl,hd8748,hd8750⟩ (Parts.cons rfl ⟨_,_,rfl,hd8777,hd8779⟩ (Parts.nil _ _ _))) oT s8772 fun v8784 w8780 s8781 m8782 k8783 hl8785=>(?_)))))))
      have h_more:=h_more.mv m8782
      have h_others:=h_others.mv m8782
      have h_next:=h_next.mv m8782
      have hp8686:=hp8686.mv m8782
      have hl8719:=hl8719.mv m8782
      have hl8734:=hl8734.mv m8782
      have:=hl8785.len_le
      refine AA (CG U62_ rfl hl8785 (AA (AE (vI 0) rfl (AF (AC (?_))))))
      refine BR (?_)
      refine DH (fun mI FI wI=>∃ (k:Nat) (B:List Nat),k≤2∧mI=2 - k∧(∃ F1,FI=FT F1 [(3,more_v),(4,others_v),(5,vI threshold),(6,next_v),(7,vB pa),(8,vB pb),(9,vP (some a8681)),(19,x8718),(22,x8733),(23,vI ((AK c ((AM c secret coins).1) more).2.2)),(26,vI ((AJ c ((AM c secret coins).1) others threshold next).2.2)),(92,v8784),(93,vI (([((AK c ((AM c secret coins).1) more).1),((AJ c ((AM c secret coins).1) others threshold next).1)]).length:Int)),(94,vI ((k:Nat):Int)),(199,undef)])∧St w O wI B∧BG Enc.u8 wI (B++O) (more_v) (more)∧BG Enc.int wI (B++O) (others_v) (others)∧BG Enc.u8 wI (B++O) (next_v) (next)∧PT Enc.circle wI (B++O) (.pointer (some a8681)) (c)∧BG Enc.share wI (B++O) (x8718) ((AM c secret coins).1)∧BG Enc.share wI (B++O) (x8733) ((AK c ((AM c secret coins).1) more).2.1)∧BG Enc.circle wI (B++O) (v8784) ([((AK c ((AM c secret coins).1) more).1),((AJ c ((AM c secret coins).1) others threshold next).1)])) (2 - (0)) ?_ ?_
      ·exact ⟨(0),(b8763 :: (b8735 :: [])),oM,rfl,⟨_,AX _ ⟨rfl,rfl,rfl,rfl,rfl,rfl,rfl,rfl,rfl,rfl,rfl,rfl,rfl,(by rfl),rfl,trivial⟩⟩,s8781,h_more,h_others,h_next,hp8686,hl8719,hl8734,hl8785⟩
      ·intro ml0 F wl0 hI
       clear h_more h_others h_next hp8686 hl8719 hl8734 hl8785
       obtain ⟨k,Bl0,hr0_0,hm0,⟨Fl0,rfl⟩,sl0,h_more,h_others,h_next,hp8686,hl8719,hl8734,hl8785⟩:=hI
       refine AG (?_)
       refine AB kR (AA (DW .i64 ((k:Nat):Int) (([((AK c ((AM c secret coins).1) more).1),((AJ c ((AM c secret coins).1) others threshold next).1)]).length:Int) rfl rfl (AF (AC (?_)))))
       refine AG (?_)
       refine AO (decide (((k:Nat):Int)<(([((AK c ((AM c secret coins).1) more).1),((AJ c ((AM c secret coins).1) others threshold next).1)]).length:Int))) rfl rfl (fun hc8786=>?_) (fun hc8786=>?_)
       ·have hp8787:((k:Nat):Int)<(([((AK c ((AM c secret coins).1) more).1),((AJ c ((AM c secret coins).1) others threshold next).1)]).length:Int):=by simpa using hc8786
        have hk2:k<2:=by have e:=hp8787;simp only [List.length_cons,List.length_nil] at e;omega
        refine AU (AC (?_))
        refine AG (?_)
        refine BR (?_)
        refine AG (?_)
        refine AB kR (AA (AE (vI ((k:Nat):Int)) rfl (AA (DI U62_ BL .i64 ((k:Nat):Int) k rfl rfl rfl hl8785 (by simp only [List.length_cons,List.length_nil];omega) fun a8788 hp8789=>(AA (CR U28_ rfl BL rfl hp8789 fun cs8790 hs8791=>(AA (CX [vI 0,vI 0,vI 0,nS,nS] II rfl sl0 fun b8792 w8793 e8798 s8794 m8795 k8796 bx8797=>(?_)))))))))
        clear e8798
        have h_more:=h_more.mv m8795
        have h_others:=h_others.mv m8795
        have h_next:=h_next.mv m8795
        have hp8686:=hp8686.mv m8795
        have hl8719:=hl8719.mv m8795
        have hl8734:=hl8734.mv m8795
        have hl8785:=hl8785.mv m8795
        have hs8791:Enc.circle.rd w8793 ((b8792 :: Bl0)++O) cs8790 (([((AK c ((AM c secret coins).1) more).1),((AJ c ((AM c secret coins).1) others threshold next).1)])[k]!):=Enc.mv Enc.circle (x:=([((AK c ((AM c secret coins).1) more).1),((AJ c ((AM c secret coins).1) others threshold next).1)])[k]!) hs8791 m8795
        refine AA (AD (vI ((k:Nat):Int)) rfl (?_))
        obtain ⟨d8804,d8806,rfl,hd8805,hd8807⟩:=hs8791
        have:=hd8805.len_le
        have:=hd8807.len_le
        refine BY (BC (vs:=[vI ((([((AK c ((AM c secret coins).1) more).1),((AJ c ((AM c secret coins).1) others threshold next).1)])[k]!).epoch),vI ((([((AK c ((AM c secret coins).1) more).1),((AJ c ((AM c secret coins).1) others threshold next).1)])[k]!).threshold),vI ((([((AK c ((AM c secret coins).1) more).1),((AJ c ((AM c secret coins).1) others threshold next).1)])[k]!).wait),d8804,d8806]) (.agg #[vI ((([((AK c ((AM c secret coins).1) more).1),((AJ c ((AM c secret coins).1) others threshold next).1)])[k]!).epoch),vI ((([((AK c ((AM c secret coins).1) more).1),((AJ c ((AM c secret coins).1) others threshold next).1)])[k]!).threshold),vI ((([((AK c ((AM c secret coins).1) more).1),((AJ c ((AM c secret coins).1) others threshold next).1)])[k]!).wait),d8804,d8806]) rfl rfl rfl BL (fun u hu=>by simp only [List.mem_cons,List.not_mem_nil,or_false] at hu;rcases hu with rfl|rfl|rfl|rfl|rfl <;> first|rfl|exact hd8805.oneCell|exact hd8807.oneCell) (by repeat (constructor)) bx8797 oT s8794 fun w8799 s8800 m8801 k8802 bx8803=>(?_))
        have h_more:=h_more.mv m8801
        have h_others:=h_others.mv m8801
        have h_next:=h_next.mv m8801
        have hp8686:=hp8686.mv m8801
        have hl8719:=hl8719.mv m8801
        have hl8734:=hl8734.mv m8801
        have hl8785:=hl8785.mv m8801
        have hd8805:=hd8805.mv m8801
        have hd8807:=hd8807.mv m8801
        refine AF (AC (?_))
        refine UO (fun FI wI=>∃ (x:Circle) (vrc114_b8792_3:Value) (vrc114_b8792_4:Value) (B:List Nat),OldC c (AM c secret coins).1 x∧True∧(∃ F1,FI=FT F1 [(3,more_v),(4,others_v),(5,vI threshold),(6,next_v),(7,vB pa),(8,vB pb),(9,vP (some a8681)),(19,x8718),(22,x8733),(23,vI ((AK c ((AM c secret coins).1) more).2.2)),(26,vI ((AJ c ((AM c secret coins).1) others threshold next).2.2)),(28,vP (some ⟨b8792,0,none⟩)),(92,v8784),(93,vI (([((AK c ((AM c secret coins).1) more).1),((AJ c ((AM c secret coins).1) others threshold next).1)]).length:Int)),(94,vI ((k:Nat):Int)),(199,undef)])∧St w O wI B∧BG Enc.int wI (B++O) vrc114_b8792_3 (x.guardians)∧BG Enc.recovery wI (B++O) vrc114_b8792_4 (x.recs)∧BG Enc.u8 wI (B++O) (more_v) (more)∧BG Enc.int wI (B++O) (others_v) (others)∧BG Enc.u8 wI (B++O) (next_v) (next)∧PT Enc.circle wI (B++O) (.pointer (some a8681)) (c)∧BG Enc.share wI (B++O) (x8718) ((AM c secret coins).1)∧BG Enc.share wI (B++O) (x8733) ((AK c ((AM c secret coins).1) more).2.1)∧BG Enc.circle wI (B++O) (v8784) ([((AK c ((AM c secret coins).1) more).1),((AJ c ((AM c secret coins).1) others threshold next).1)])∧GQ wI b8792 28 [vI x.epoch,vI x.threshold,vI x.wait,vrc114_b8792_3,vrc114_b8792_4]∧b8792∈B) ?_ ?_
        ·refine AG (?_)
         refine AB kR (AA (AE (vI ((k:Nat):Int)) rfl (AA (EI .i64 ((k:Nat):Int) (0:Int) rfl rfl (AA (AE (vO (((k:Nat):Int) == (0:Int))) rfl (?_)))))))
         cases hb8808:(((k:Nat):Int) == (0:Int))
         ·have hp8809:((k:Nat):Int)≠(0:Int):=by simpa using hb8808
          refine AT rfl (AT rfl (AA (BX (vO false) rfl rfl (AA (AE (vO false) rfl (BE rfl (AE (vI ((k:Nat):Int)) rfl (BE rfl (EI .i64 ((k:Nat):Int) (1:Int) rfl rfl (BE rfl (AE (vO (((k:Nat):Int) == (1:Int))) rfl (?_))))))))))))
          cases hb8810:(((k:Nat):Int) == (1:Int))
          ·have hp8811:((k:Nat):Int)≠(1:Int):=by simpa using hb8810
           refine AT rfl (AT rfl (BE rfl (BX (vO false) rfl rfl (AA (BX (vO false) rfl rfl (AF (AC (?_))))))))
           refine AO false rfl rfl (fun h=>by cases h) (fun _=>?_)
           refine AU (AC (?_))
           exact ⟨((([((AK c ((AM c secret coins).1) more).1),((AJ c ((AM c secret coins).1) others threshold next).1)])[k]!)),d8804,d8806,(b8792 :: Bl0),(old_at (k:=k) hhd oM (fun _=>by (exfalso;omega)) (fun _=>by (exfalso;omega))),trivial,⟨_,AX _ ⟨rfl,rfl,rfl,rfl,rfl,rfl,rfl,rfl,rfl,rfl,rfl,rfl,rfl,rfl,rfl,rfl,trivial⟩⟩,s8800,(by rw [show ((([((AK c ((AM c secret coins).1) more).1),((AJ c ((AM c secret coins).1) others threshold next).1)])[k]!)).guardians=(([((AK c ((AM c secret coins).1) more).1),((AJ c ((AM c secret coins).1) others threshold next).1)])[k]!).guardians from rfl];exact hd8805),(by rw [show ((([((AK c ((AM c secret coins).1) more).1),((AJ c ((AM c secret coins).1) others threshold next).1)])[k]!)).recs=(([((AK c ((AM c secret coins).1) more).1),((AJ c ((AM c secret coins).1) others threshold next).1)])[k]!).recs from rfl];exact hd8807),h_more,h_others,h_next,hp8686,hl8719,hl8734,hl8785,(by rw [show ([vI (((([((AK c ((AM c secret coins).1) more).1),((AJ c ((AM c secret coins).1) others threshold next).1)])[k]!)).epoch),vI (((([((AK c ((AM c secret coins).1) more).1),((AJ c ((AM c secret coins).1) others threshold next).1)])[k]!)).threshold),vI (((([((AK c ((AM c secret coins).1) more).1),((AJ c ((AM c secret coins).1) others threshold next).1)])[k]!)).wait),d8804,d8806]:List Value)=[vI ((([((AK c ((AM c secret coins).1) more).1),((AJ c ((AM c secret coins).1) others threshold next).1)])[k]!).epoch),vI ((([((AK c ((AM c secret coins).1) more).1),((AJ c ((AM c secret coins).1) others threshold next).1)])[k]!).threshold),vI ((([((AK c ((AM c secret coins).1) more).1),((AJ c ((AM c secret coins).1) others threshold next).1)])[k]!).wait),d8804,d8806] from rfl];exact bx8803),(by (repeat (exact List.mem_cons_self)))⟩
          ·have hp8812:((k:Nat):Int)=(1:Int):=by simpa using hb8810
           refine BE rfl (AE (vI ((AJ c ((AM c secret coins).1) others threshold next).2.2)) rfl (BE rfl (CV .i64 ((AJ c ((AM c secret coins).1) others threshold next).2.2) (0:Int) rfl rfl (BE rfl (BK (vO (((AJ c ((AM c secret coins).1) others threshold next).2.2) != (0:Int))) rfl rfl (AA (BX (vO (((AJ c ((AM c secret coins).1) others threshold next).2.2) != (0:Int))) rfl rfl (AF (AC (?_))))))))))
           refine AO (((AJ c ((AM c secret coins).1) others threshold next).2.2) != (0:Int)) rfl rfl (fun hc8813=>?_) (fun hc8813=>?_)
           ·have hp8814:(AJ c ((AM c secret coins).1) others threshold next).2.2≠(0:Int):=by simpa using hc8813
            refine DE (CC (CY (AC (?_))))
            refine AB kR (AA (DC .i64 ((k:Nat):Int) (1:Int) (((k+1:Nat):Int)) rfl rfl (FO oM oM) (AA (AE (vI ((k+1:Nat):Int)) rfl (AF (AC (?_)))))))
            exact ⟨_,oM,(k+1),(b8792 :: Bl0),oM,rfl,⟨_,AX _ ⟨rfl,rfl,rfl,rfl,rfl,rfl,rfl,rfl,rfl,rfl,rfl,rfl,rfl,(by rfl),rfl,trivial⟩⟩,s8800,h_more,h_others,h_next,hp8686,hl8719,hl8734,hl8785⟩
           ·have hp8815:(AJ c ((AM c secret coins).1) others threshold next).2.2=(0:Int):=by simpa using hc8813
            refine AU (AC (?_))
            exact ⟨((([((AK c ((AM c secret coins).1) more).1),((AJ c ((AM c secret coins).1) others threshold next).1)])[k]!)),d8804,d8806,(b8792 :: Bl0),(old_at (k:=k) hhd oM (fun _=>by (exfalso;omega)) (fun _=>by assumption)),trivial,⟨_,AX _ ⟨rfl,rfl,rfl,rfl,rfl,rfl,rfl,rfl,rfl,rfl,rfl,rfl,rfl,rfl,rfl,rfl,trivial⟩⟩,s8800,(by rw [show ((([((AK c ((AM c secret coins).1) more).1),((AJ c ((AM c secret coins).1) others threshold next).1)])[k]!)).guardians=(([((AK c ((AM c secret coins).1) more).1),((AJ c ((AM c secret coins).1) others threshold next).1)])[k]!).guardians from rfl];exact hd8805),(by rw [show ((([((AK c ((AM c secret coins).1) more).1),((AJ c ((AM c secret coins).1) others threshold next).1)])[k]!)).recs=(([((AK c ((AM c secret coins).1) more).1),((AJ c ((AM c secret coins).1) others threshold next).1)])[k]!).recs from rfl];exact hd8807),h_more,h_others,h_next,hp8686,hl8719,hl8734,hl8785,(by rw [show ([vI (((([((AK c ((AM c secret coins).1) more).1),((AJ c ((AM c secret coins).1) others threshold next).1)])[k]!)).epoch),vI (((([((AK c ((AM c secret coins).1) more).1),((AJ c ((AM c secret coins).1) others threshold next).1)])[k]!)).threshold),vI (((([((AK c ((AM c secret coins).1) more).1),((AJ c ((AM c secret coins).1) others threshold next).1)])[k]!)).wait),d8804,d8806]:List Value)=[vI ((([((AK c ((AM c secret coins).1) more).1),((AJ c ((AM c secret coins).1) others threshold next).1)])[k]!).epoch),vI ((([((AK c ((AM c secret coins).1) more).1),((AJ c ((AM c secret coins).1) others threshold next).1)])[k]!).threshold),vI ((([((AK c ((AM c secret coins).1) more).1),((AJ c ((AM c secret coins).1) others threshold next).1)])[k]!).wait),d8804,d8806] from rfl];exact bx8803),(by (repeat (exact List.mem_cons_self)))⟩
         ·have hp8816:((k:Nat):Int)=(0:Int):=by simpa using hb8808
          refine BE rfl (AE (vI ((AK c ((AM c secret coins).1) more).2.2)) rfl (BE rfl (CV .i64 ((AK c ((AM c secret coins).1) more).2.2) (0:Int) rfl rfl (AA (BK (vO (((AK c ((AM c secret coins).1) more).2.2) != (0:Int))) rfl rfl (AA (AE (vO (((AK c ((AM c secret coins).1) more).2.2) != (0:Int))) rfl (?_))))))))
          cases hb8817:(((AK c ((AM c secret coins).1) more).2.2) != (0:Int))
          ·have hp8818:(AK c ((AM c secret coins).1) more).2.2=(0:Int):=by simpa using hb8817
           refine BE rfl (AE (vI ((k:Nat):Int)) rfl (BE rfl (EI .i64 ((k:Nat):Int) (1:Int) rfl rfl (BE rfl (AE (vO (((k:Nat):Int) == (1:Int))) rfl (?_))))))
           cases hb8819:(((k:Nat):Int) == (1:Int))
           ·have hp8820:((k:Nat):Int)≠(1:Int):=by simpa using hb8819
            refine AT rfl (AT rfl (BE rfl (BX (vO false) rfl rfl (AA (BX (vO false) rfl rfl (AF (AC (?_))))))))
            refine AO false rfl rfl (fun h=>by cases h) (fun _=>?_)
            refine AU (AC (?_))
            exact ⟨((([((AK c ((AM c secret coins).1) more).1),((AJ c ((AM c secret coins).1) others threshold next).1)])[k]!)),d8804,d8806,(b8792 :: Bl0),(old_at (k:=k) hhd oM (fun _=>by assumption) (fun _=>by (exfalso;omega))),trivial,⟨_,AX _ ⟨rfl,rfl,rfl,rfl,rfl,rfl,rfl,rfl,rfl,rfl,rfl,rfl,rfl,rfl,rfl,rfl,trivial⟩⟩,s8800,(by rw [show ((([((AK c ((AM c secret coins).1) more).1),((AJ c ((AM c secret coins).1) others threshold next).1)])[k]!)).guardians=(([((AK c ((AM c secret coins).1) more).1),((AJ c ((AM c secret coins).1) others threshold next).1)])[k]!).guardians from rfl];exact hd8805),(by rw [show ((([((AK c ((AM c secret coins).1) more).1),((AJ c ((AM c secret coins).1) others threshold next).1)])[k]!)).recs=(([((AK c ((AM c secret coins).1) more).1),((AJ c ((AM c secret coins).1) others threshold next).1)])[k]!).recs from rfl];exact hd8807),h_more,h_others,h_next,hp8686,hl8719,hl8734,hl8785,(by rw [show ([vI (((([((AK c ((AM c secret coins).1) more).1),((AJ c ((AM c secret coins).1) others threshold next).1)])[k]!)).epoch),vI (((([((AK c ((AM c secret coins).1) more).1),((AJ c ((AM c secret coins).1) others threshold next).1)])[k]!)).threshold),vI (((([((AK c ((AM c secret coins).1) more).1),((AJ c ((AM c secret coins).1) others threshold next).1)])[k]!)).wait),d8804,d8806]:List Value)=[vI ((([((AK c ((AM c secret coins).1) more).1),((AJ c ((AM c secret coins).1) others threshold next).1)])[k]!).epoch),vI ((([((AK c ((AM c secret coins).1) more).1),((AJ c ((AM c secret coins).1) others threshold next).1)])[k]!).threshold),vI ((([((AK c ((AM c secret coins).1) more).1),((AJ c ((AM c secret coins).1) others threshold next).1)])[k]!).wait),d8804,d8806] from rfl];exact bx8803),(by (repeat (exact List.mem_cons_self)))⟩
           ·have hp8821:((k:Nat):Int)=(1:Int):=by simpa using hb8819
            refine BE rfl (AE (vI ((AJ c ((AM c secret coins).1) others threshold next).2.2)) rfl (BE rfl (CV .i64 ((AJ c ((AM c secret coins).1) others threshold next).2.2) (0:Int) rfl rfl (BE rfl (BK (vO (((AJ c ((AM c secret coins).1) others threshold next).2.2) != (0:Int))) rfl rfl (AA (BX (vO (((AJ c ((AM c secret coins).1) others threshold next).2.2) != (0:Int))) rfl rfl (AF (AC (?_))))))))))
            refine AO (((AJ c ((AM c secret coins).1) others threshold next).2.2) != (0:Int)) rfl rfl (fun hc8822=>?_) (fun hc8822=>?_)
            ·have hp8823:(AJ c ((AM c secret coins).1) others threshold next).2.2≠(0:Int):=by simpa using hc8822
             refine DE (CC (CY (AC (?_))))
             refine AB kR (AA (DC .i64 ((k:Nat):Int) (1:Int) (((k+1:Nat):Int)) rfl rfl (FO oM oM) (AA (AE (vI ((k+1:Nat):Int)) rfl (AF (AC (?_)))))))
             exact ⟨_,oM,(k+1),(b8792 :: Bl0),oM,rfl,⟨_,AX _ ⟨rfl,rfl,rfl,rfl,rfl,rfl,rfl,rfl,rfl,rfl,rfl,rfl,rfl,(by rfl),rfl,trivial⟩⟩,s8800,h_more,h_others,h_next,hp8686,hl8719,hl8734,hl8785⟩
            ·have hp8824:(AJ c ((AM c secret coins).1) others threshold next).2.2=(0:Int):=by simpa using hc8822
             refine AU (AC (?_))
             exact ⟨((([((AK c ((AM c secret coins).1) more).1),((AJ c ((AM c secret coins).1) others threshold next).1)])[k]!)),d8804,d8806,(b8792 :: Bl0),(old_at (k:=k) hhd oM (fun _=>by assumption) (fun _=>by assumption)),trivial,⟨_,AX _ ⟨rfl,rfl,rfl,rfl,rfl,rfl,rfl,rfl,rfl,rfl,rfl,rfl,rfl,rfl,rfl,rfl,trivial⟩⟩,s8800,(by rw [show ((([((AK c ((AM c secret coins).1) more).1),((AJ c ((AM c secret coins).1) others threshold next).1)])[k]!)).guardians=(([((AK c ((AM c secret coins).1) more).1),((AJ c ((AM c secret coins).1) others threshold next).1)])[k]!).guardians from rfl];exact hd8805),(by rw [show ((([((AK c ((AM c secret coins).1) more).1),((AJ c ((AM c secret coins).1) others threshold next).1)])[k]!)).recs=(([((AK c ((AM c secret coins).1) more).1),((AJ c ((AM c secret coins).1) others threshold next).1)])[k]!).recs from rfl];exact hd8807),h_more,h_others,h_next,hp8686,hl8719,hl8734,hl8785,(by rw [show ([vI (((([((AK c ((AM c secret coins).1) more).1),((AJ c ((AM c secret coins).1) others threshold next).1)])[k]!)).epoch),vI (((([((AK c ((AM c secret coins).1) more).1),((AJ c ((AM c secret coins).1) others threshold next).1)])[k]!)).threshold),vI (((([((AK c ((AM c secret coins).1) more).1),((AJ c ((AM c secret coins).1) others threshold next).1)])[k]!)).wait),d8804,d8806]:List Value)=[vI ((([((AK c ((AM c secret coins).1) more).1),((AJ c ((AM c secret coins).1) others threshold next).1)])[k]!).epoch),vI ((([((AK c ((AM c secret coins).1) more).1),((AJ c ((AM c secret coins).1) others threshold next).1)])[k]!).threshold),vI ((([((AK c ((AM c secret coins).1) more).1),((AJ c ((AM c secret coins).1) others threshold next).1)])[k]!).wait),d8804,d8806] from rfl];exact bx8803),(by (repeat (exact List.mem_cons_self)))⟩
          ·have hp8825:(AK c ((AM c secret coins).1) more).2.2≠(0:Int):=by simpa using hb8817
           refine AT rfl (AT rfl (AT rfl (HO rfl (HO rfl (AT rfl (AA (BK (vO true) rfl rfl (AF (AC (?_))))))))))
           refine AO true rfl rfl (fun _=>?_) (fun h=>by cases h)
           refine DE (CC (CY (AC (?_))))
           refine AB kR (AA (DC .i64 ((k:Nat):Int) (1:Int) (((k+1:Nat):Int)) rfl rfl (FO oM oM) (AA (AE (vI ((k+1:Nat):Int)) rfl (AF (AC (?_)))))))
           exact ⟨_,oM,(k+1),(b8792 :: Bl0),oM,rfl,⟨_,AX _ ⟨rfl,rfl,rfl,rfl,rfl,rfl,rfl,rfl,rfl,rfl,rfl,rfl,rfl,(by rfl),rfl,trivial⟩⟩,s8800,h_more,h_others,h_next,hp8686,hl8719,hl8734,hl8785⟩
        ·intro F wlc114 hI
         clear h_more h_others h_next hp8686 hl8719 hl8734 hl8785
         obtain ⟨x,vrc114_b8792_3,vrc114_b8792_4,Blc114,hrc114_0,hmc114,⟨Flc114,rfl⟩,slc114,hrdc114_b8792_3,hrdc114_b8792_4,h_more,h_others,h_next,hp8686,hl8719,hl8734,hl8785,hbs_c114_b8792,hin_b8792⟩:=hI
         have:=hrdc114_b8792_3.len_le
         have:=hrdc114_b8792_4.len_le
         refine AG (?_)
         refine AB kR (AA (BN (vs:=[vI x.epoch,vI x.threshold,vI x.wait,vrc114_b8792_3,vrc114_b8792_4]) U28_ rfl BL rfl hbs_c114_b8792 rfl (AA (AE (x8718) rfl (AA (AE (more_v) rfl (AA (BB (vs:=[vA #[vI x.epoch,vI x.threshold,vI x.wait,vrc114_b8792_3,vrc114_b8792_4],x8718,more_v]) PS (SK (O:=Blc114++O) [vI x.epoch,vI x.threshold,vI x.wait,vrc114_b8792_3,vrc114_b8792_4] x x8718 ((AM c secret coins).1) more_v more wlc114 ⟨_,_,rfl,hrdc114_b8792_3,hrdc114_b8792_4⟩ hl8719 h_more slc114.lt) rfl slc114 fun v8826 w8827 s8828 m8829 k8830 r8831=>(?_)))))))))
         obtain ⟨cs8832,x8834,rfl,hs8833,hl8835⟩:=r8831
         have:=hl8835.len_le
         have h_more:=h_more.mv m8829
         have h_others:=h_others.mv m8829
         have h_next:=h_next.mv m8829
         have hp8686:=hp8686.mv m8829
         have hl8719:=hl8719.mv m8829
         have hl8734:=hl8734.mv m8829
         have hl8785:=hl8785.mv m8829
         have hrdc114_b8792_3:=hrdc114_b8792_3.mv m8829
         have hrdc114_b8792_4:=hrdc114_b8792_4.mv m8829
         have hbs_c114_b8792:=hbs_c114_b8792.keep k8830 (by simp)
         refine AA (AE (vT #[vA cs8832.toArray,x8834,vI ((AK x ((AM c secret coins).1) more).2.2)]) rfl (AA (AN (vA cs8832.toArray) rfl rfl (AA (AN (x8834) rfl rfl (AA (AN (vI ((AK x ((AM c secret coins).1) more).2.2)) rfl rfl (AA (CX [vI 0,vI 0,vI 0,nS,nS] II rfl s8828 fun b8836 w8837 e8842 s8838 m8839 k8840 bx8841=>(?_))))))))))
         have ne8843:FH b8792 b8836:=by show b8792≠b8836;have:=hbs_c114_b8792.lt;omega
         clear e8842
         have h_more:=h_more.mv m8839
         have h_others:=h_others.mv m8839
         have h_next:=h_next.mv m8839
         have hp8686:=hp8686.mv m8839
         have hl8719:=hl8719.mv m8839
         have hl8734:=hl8734.mv m8839
         have hl8785:=hl8785.mv m8839
         have hs8833:Enc.circle.rd w8837 ((b8836 :: Blc114)++O) cs8832 ((AK x ((AM c secret coins).1) more).1):=Enc.mv Enc.circle (x:=(AK x ((AM c secret coins).1) more).1) hs8833 m8839
         have hrdc114_b8792_3:=hrdc114_b8792_3.mv m8839
         have hrdc114_b8792_4:=hrdc114_b8792_4.mv m8839
         have hbs_c114_b8792:=hbs_c114_b8792.keep k8840 (by simp)
         obtain ⟨d8849,d8851,rfl,hd8850,hd8852⟩:=hs8833
         have:=hd8850.len_le
         have:=hd8852.len_le
         refine BY (BC (vs:=[vI (((AK x ((AM c secret coins).1) more).1).epoch),vI (((AK x ((AM c secret coins).1) more).1).threshold),vI (((AK x ((AM c secret coins).1) more).1).wait),d8849,d8851]) (.agg #[vI (((AK x ((AM c secret coins).1) more).1).epoch),vI (((AK x ((AM c secret coins).1) more).1).threshold),vI (((AK x ((AM c secret coins).1) more).1).wait),d8849,d8851]) rfl rfl rfl BL (fun u hu=>by simp only [List.mem_cons,List.not_mem_nil,or_false] at hu;rcases hu with rfl|rfl|rfl|rfl|rfl <;> first|rfl|exact hd8850.oneCell|exact hd8852.oneCell) (by repeat (constructor)) bx8841 oT s8838 fun w8844 s8845 m8846 k8847 bx8848=>(?_))
         have h_more:=h_more.mv m8846
         have h_others:=h_others.mv m8846
         have h_next:=h_next.mv m8846
         have hp8686:=hp8686.mv m8846
         have hl8719:=hl8719.mv m8846
         have hl8734:=hl8734.mv m8846
         have hl8785:=hl8785.mv m8846
         have hrdc114_b8792_3:=hrdc114_b8792_3.mv m8846
         have hrdc114_b8792_4:=hrdc114_b8792_4.mv m8846
         have hbs_c114_b8792:=hbs_c114_b8792.keep k8847 (BH ne8843)
         refine AA (AD (x8834) rfl (AA (AD (vI ((AK x ((AM c secret coins).1) more).2.2)) rfl (AF (AC (?_))))))
         refine AG (?_)
         refine AB kR (AA (BN (vs:=[vI x.epoch,vI x.threshold,vI x.wait,vrc114_b8792_3,vrc114_b8792_4]) U28_ rfl BL rfl hbs_c114_b8792 rfl (AA (AE (x8718) rfl (AA (AE (others_v) rfl (AA (AE (vI threshold) rfl (AA (AE (next_v) rfl (AA (BB (vs:=[vA #[vI x.epoch,vI x.threshold,vI x.wait,vrc114_b8792_3,vrc114_b8792_4],x8718,others_v,vI threshold,next_v]) UL (RE (O:=(b8836 :: Blc114)++O) [vI x.epoch,vI x.threshold,vI x.wait,vrc114_b8792_3,vrc114_b8792_4] x x8718 ((AM c secret coins).1) others_v others threshold next_v next w8844 ⟨_,_,rfl,hrdc114_b8792_3,hrdc114_b8792_4⟩ hl8719 h_others h_next oM s8845.lt) rfl s8845 fun v8853 w8854 s8855 m8856 k8857 r8858=>(?_)))))))))))))
         obtain ⟨cs8859,x8861,rfl,hs8860,hl8862⟩:=r8858
         have:=hl8862.len_le
         have h_more:=h_more.mv m8856
         have h_others:=h_others.mv m8856
         have h_next:=h_next.mv m8856
         have hp8686:=hp8686.mv m8856
         have hl8719:=hl8719.mv m8856
         have hl8734:=hl8734.mv m8856
         have hl8785:=hl8785.mv m8856
         have hrdc114_b8792_3:=hrdc114_b8792_3.mv m8856
         have hrdc114_b8792_4:=hrdc114_b8792_4.mv m8856
         have hbs_c114_b8792:=hbs_c114_b8792.keep k8857 (by simp)
         have bx8848:=bx8848.keep k8857 (by simp)
         refine AA (AE (vT #[vA cs8859.toArray,x8861,vI ((AJ x ((AM c secret coins).1) others threshold next).2.2)]) rfl (AA (AN (vA cs8859.toArray) rfl rfl (AA (AN (x8861) rfl rfl (AA (AN (vI ((AJ x ((AM c secret coins).1) others threshold next).2.2)) rfl rfl (AA (CX [vI 0,vI 0,vI 0,nS,nS] II rfl s8855 fun b8863 w8864 e8869 s8865 m8866 k8867 bx8868=>(?_))))))))))
         have ne8870:FH b8792 b8863:=by show b8792≠b8863;have:=hbs_c114_b8792.lt;omega
         have ne8871:FH b8836 b8863:=by show b8836≠b8863;have:=bx8848.lt;omega
         clear e8869
         have h_more:=h_more.mv m8866
         have h_others:=h_others.mv m8866
         have h_next:=h_next.mv m8866
         have hp8686:=hp8686.mv m8866
         have hl8719:=hl8719.mv m8866
         have hl8734:=hl8734.mv m8866
         have hl8785:=hl8785.mv m8866
         have hrdc114_b8792_3:=hrdc114_b8792_3.mv m8866
         have hrdc114_b8792_4:=hrdc114_b8792_4.mv m8866
         have hs8860:Enc.circle.rd w8864 ((b8863 :: (b8836 :: Blc114))++O) cs8859 ((AJ x ((AM c secret coins).1) others threshold next).1):=Enc.mv Enc.circle (x:=(AJ x ((AM c secret coins).1) others threshold next).1) hs8860 m8866
         have hbs_c114_b8792:=hbs_c114_b8792.keep k8867 (by simp)
         have bx8848:=bx8848.keep k8867 (by simp)
         obtain ⟨d8877,d8879,rfl,hd8878,hd8880⟩:=hs8860
         have:=hd8878.len_le
         have:=hd8880.len_le
         refine BY (BC (vs:=[vI (((AJ x ((AM c secret coins).1) others threshold next).1).epoch),vI (((AJ x ((AM c secret coins).1) others threshold next).1).threshold),vI (((AJ x ((AM c secret coins).1) others threshold next).1).wait),d8877,d8879]) (.agg #[vI (((AJ x ((AM c secret coins).1) others threshold next).1).epoch),vI (((AJ x ((AM c secret coins).1) others threshold next).1).threshold),vI (((AJ x ((AM c secret coins).1) others threshold next).1).wait),d8877,d8879]) rfl rfl rfl BL (fun u hu=>by simp only [List.mem_cons,List.not_mem_nil,or_false] at hu;rcases hu with rfl|rfl|rfl|rfl|rfl <;> first|rfl|exact hd8878.oneCell|exact hd8880.oneCell) (by repeat (constructor)) bx8868 oT s8865 fun w8872 s8873 m8874 k8875 bx8876=>(?_))
         have h_more:=h_more.mv m8874
         have h_others:=h_others.mv m8874
         have h_next:=h_next.mv m8874
         have hp8686:=hp8686.mv m8874
         have hl8719:=hl8719.mv m8874
         have hl8734:=hl8734.mv m8874
         have hl8785:=hl8785.mv m8874
         have hrdc114_b8792_3:=hrdc114_b8792_3.mv m8874
         have hrdc114_b8792_4:=hrdc114_b8792_4.mv m8874
         have hbs_c114_b8792:=hbs_c114_b8792.keep k8875 (BH ne8870)
         have bx8848:=bx8848.keep k8875 (BH ne8871)
         refine AA (AD (x8861) rfl (AA (AD (vI ((AJ x ((AM c secret coins).1) others threshold next).2.2)) rfl (AF (AC (?_))))))
         refine AG (?_)
         refine AG (?_)
         refine AB kR (AA (AE (vI ((AK x ((AM c secret coins).1) more).2.2)) rfl (AA (CV .i64 ((AK x ((AM c secret coins).1) more).2.2) (460:Int) rfl rfl (AA (AE (vO (((AK x ((AM c secret coins).1) more).2.2) != (460:Int))) rfl (?_)))))))
         have hb8881:(((AK x ((AM c secret coins).1) more).2.2) != (460:Int))=false:=(by rw [hrc114_0.r1];rfl)
         rw [hb8881]
         refine BE rfl (AE (vI ((AJ x ((AM c secret coins).1) others threshold next).2.2)) rfl (BE rfl (CV .i64 ((AJ x ((AM c secret coins).1) others threshold next).2.2) (460:Int) rfl rfl (AA (BX (vO (((AJ x ((AM c secret coins).1) others threshold next).2.2) != (460:Int))) rfl rfl (AA (AE (vO (((AJ x ((AM c secret coins).1) others threshold next).2.2) != (460:Int))) rfl (?_))))))))
         have hb8882:(((AJ x ((AM c secret coins).1) others threshold next).2.2) != (460:Int))=false:=(by rw [hrc114_0.r2];rfl)
         rw [hb8882]
         refine BE rfl (BD 0 JG rfl (BE rfl (BI U3_ rfl (vI x.epoch) rfl hbs_c114_b8792 rfl (BE rfl (BM 0 JG (c.epoch) rfl hp8686 (fun _ _ _ h=>HE h) fun a8883 hp8884=>(BE rfl (CE U3_ rfl rfl hp8884 (BE rfl (DC .i64 c.epoch (1:Int) (c.epoch+(1:Int)) rfl rfl (FO oM oM) (BE rfl (CV .i64 x.epoch (c.epoch+(1:Int)) rfl rfl (AA (BX (vO (x.epoch != (c.epoch+(1:Int)))) rfl rfl (AF (AC (?_))))))))))))))))
         have hb8885:(x.epoch != (c.epoch+(1:Int)))=false:=(by rw [hrc114_0.ep];simp)
         rw [hb8885]
         refine AO false rfl rfl (fun h=>by cases h) (fun _=>?_)
         refine AU (AC (?_))
         refine AG (?_)
         refine AB kR (AA (BN (vs:=[vI x.epoch,vI x.threshold,vI x.wait,vrc114_b8792_3,vrc114_b8792_4]) U28_ rfl BL rfl hbs_c114_b8792 rfl (AA (BB (vs:=[vA #[vI x.epoch,vI x.threshold,vI x.wait,vrc114_b8792_3,vrc114_b8792_4]]) enter_27 (c_done (O:=(b8863 :: (b8836 :: Blc114))++O) [vI x.epoch,vI x.threshold,vI x.wait,vrc114_b8792_3,vrc114_b8792_4] x w8872 ⟨_,_,rfl,hrdc114_b8792_3,hrdc114_b8792_4⟩ s8873.lt) rfl s8873 fun v8886 w8887 s8888 m8889 k8890 r8891=>(?_)))))
         obtain ⟨cs8892,rfl,hs8893⟩:=r8891
         have h_more:=h_more.mv m8889
         have h_others:=h_others.mv m8889
         have h_next:=h_next.mv m8889
         have hp8686:=hp8686.mv m8889
         have hl8719:=hl8719.mv m8889
         have hl8734:=hl8734.mv m8889
         have hl8785:=hl8785.mv m8889
         have hbs_c114_b8792:=hbs_c114_b8792.keep k8890 (by simp)
         have bx8848:=bx8848.keep k8890 (by simp)
         have bx8876:=bx8876.keep k8890 (by simp)
         refine AA (AE (vT #[vA cs8892.toArray,vI ((CL x).2.1),vO ((CL x).2.2)]) rfl (AA (AN (vA cs8892.toArray) rfl rfl (AA (AN (vI ((CL x).2.1)) rfl rfl (AA (AN (vO ((CL x).2.2)) rfl rfl (AA (CX [vI 0,vI 0,vI 0,nS,nS] II rfl s8888 fun b8894 w8895 e8900 s8896 m8897 k8898 bx8899=>(?_))))))))))
         have ne8901:FH b8792 b8894:=by show b8792≠b8894;have:=hbs_c114_b8792.lt;omega
         have ne8902:FH b8836 b8894:=by show b8836≠b8894;have:=bx8848.lt;omega
         have ne8903:FH b8863 b8894:=by show b8863≠b8894;have:=bx8876.lt;omega
         clear e8900
         have h_more:=h_more.mv m8897
         have h_others:=h_others.mv m8897
         have h_next:=h_next.mv m8897
         have hp8686:=hp8686.mv m8897
         have hl8719:=hl8719.mv m8897
         have hl8734:=hl8734.mv m8897
         have hl8785:=hl8785.mv m8897
         have hs8893:Enc.circle.rd w8895 ((b8894 :: (b8863 :: (b8836 :: Blc114)))++O) cs8892 ((CL x).1):=Enc.mv Enc.circle (x:=(CL x).1) hs8893 m8897
         obtain ⟨d8909,d8911,rfl,hd8910,hd8912⟩:=hs8893
         have:=hd8910.len_le
         have:=hd8912.len_le
         refine BY (BC (vs:=[vI (((CL x).1).epoch),vI (((CL x).1).threshold),vI (((CL x).1).wait),d8909,d8911]) (.agg #[vI (((CL x).1).epoch),vI (((CL x).1).threshold),vI (((CL x).1).wait),d8909,d8911]) rfl rfl rfl BL (fun u hu=>by simp only [List.mem_cons,List.not_mem_nil,or_false] at hu;rcases hu with rfl|rfl|rfl|rfl|rfl <;> first|rfl|exact hd8910.oneCell|exact hd8912.oneCell) (by repeat (constructor)) bx8899 oT s8896 fun w8904 s8905 m8906 k8907 bx8908=>(?_))
         have h_more:=h_more.mv m8906
         have h_others:=h_others.mv m8906
         have h_next:=h_next.mv m8906
         have hp8686:=hp8686.mv m8906
         have hl8719:=hl8719.mv m8906
         have hl8734:=hl8734.mv m8906
         have hl8785:=hl8785.mv m8906
         have hd8910:=hd8910.mv m8906
         have hd8912:=hd8912.mv m8906
         refine AA (AD (vI ((CL x).2.1)) rfl (AA (AD (vO ((CL x).2.2)) rfl (AF (AC (?_))))))
         refine AG (?_)
         refine AB kR (AA (AE (vO ((CL x).2.2)) rfl (AF (AC (?_)))))
         refine AO ((CL x).2.2) rfl rfl (fun hc8913=>?_) (fun hc8913=>?_)
         ·have hp8914:((CL x).2.2)=true:=by simpa using hc8913
          refine AG (?_)
          refine AB kR (AA (BN (vs:=[vI (((CL x).1).epoch),vI (((CL x).1).threshold),vI (((CL x).1).wait),d8909,d8911]) U28_ rfl BL rfl bx8908 rfl (AA (AE (vI ((CL x).2.1)) rfl (AA (AE (x8718) rfl (AA (BB (vs:=[vA #[vI (((CL x).1).epoch),vI (((CL x).1).threshold),vI (((CL x).1).wait),d8909,d8911],vI ((CL x).2.1),x8718]) NM (TG (O:=(b8894 :: (b8863 :: (b8836 :: Blc114)))++O) [vI (((CL x).1).epoch),vI (((CL x).1).threshold),vI (((CL x).1).wait),d8909,d8911] ((CL x).1) ((CL x).2.1) x8718 ((AM c secret coins).1) w8904 ⟨_,_,rfl,hd8910,hd8912⟩ hl8719 s8905.lt) rfl s8905 fun v8915 w8916 s8917 m8918 k8919 r8920=>(?_)))))))))
          obtain ⟨x8921,rfl,hl8922⟩:=r8920
          have:=hl8922.len_le
          have h_more:=h_more.mv m8918
          have h_others:=h_others.mv m8918
          have h_next:=h_next.mv m8918
          have hp8686:=hp8686.mv m8918
          have hl8719:=hl8719.mv m8918
          have hl8734:=hl8734.mv m8918
          have hl8785:=hl8785.mv m8918
          refine AA (AE (vT #[x8921,vI ((BS ((CL x).1) ((CL x).2.1) ((AM c secret coins).1)).2)]) rfl (AA (AN (x8921) rfl rfl (AA (AN (vI ((BS ((CL x).1) ((CL x).2.1) ((AM c secret coins).1)).2)) rfl rfl (AA (AD (x8921) rfl (AA (AD (vI ((BS ((CL x).1) ((CL x).2.1) ((AM c secret coins).1)).2)) rfl (AF (AC (?_))))))))))))
          refine AG (?_)
          refine AB kR (AA (AE (vI ((BS ((CL x).1) ((CL x).2.1) ((AM c secret coins).1)).2)) rfl (AA (CV .i64 ((BS ((CL x).1) ((CL x).2.1) ((AM c secret coins).1)).2) (460:Int) rfl rfl (AF (AC (?_)))))))
          have hb8923:(((BS ((CL x).1) ((CL x).2.1) ((AM c secret coins).1)).2) != (460:Int))=false:=(by rw [hrc114_0.r3 aS];rfl)
          rw [hb8923]
          refine AO false rfl rfl (fun h=>by cases h) (fun _=>?_)
          refine AU (CI (AC (?_)))
          refine AB kR (AA (DC .i64 ((k:Nat):Int) (1:Int) (((k+1:Nat):Int)) rfl rfl (FO oM oM) (AA (AE (vI ((k+1:Nat):Int)) rfl (AF (AC (?_)))))))
          exact ⟨_,oM,(k+1),(b8894 :: (b8863 :: (b8836 :: Blc114))),oM,rfl,⟨_,AX _ ⟨rfl,rfl,rfl,rfl,rfl,rfl,rfl,rfl,rfl,rfl,rfl,rfl,rfl,(by rfl),rfl,trivial⟩⟩,s8917,h_more,h_others,h_next,hp8686,hl8719,hl8734,hl8785⟩
         ·have hp8924:((CL x).2.2)=false:=by simpa using hc8913
          refine AU (CI (AC (?_)))
          refine AB kR (AA (DC .i64 ((k:Nat):Int) (1:Int) (((k+1:Nat):Int)) rfl rfl (FO oM oM) (AA (AE (vI ((k+1:Nat):Int)) rfl (AF (AC (?_)))))))
          exact ⟨_,oM,(k+1),(b8894 :: (b8863 :: (b8836 :: Blc114))),oM,rfl,⟨_,AX _ ⟨rfl,rfl,rfl,rfl,rfl,rfl,rfl,rfl,rfl,rfl,rfl,rfl,rfl,(by rfl),rfl,trivial⟩⟩,s8905,h_more,h_others,h_next,hp8686,hl8719,hl8734,hl8785⟩
       ·have hp8925:(([((AK c ((AM c secret coins).1) more).1),((AJ c ((AM c secret coins).1) others threshold next).1)]).length:Int)≤((k:Nat):Int):=by simpa using hc8786
        refine DE (CC (CC (CY (AC (?_)))))
        refine AG (?_)
        refine AG (?_)
        refine AB kR (AA (AE (vI ((AK c ((AM c secret coins).1) more).2.2)) rfl (AA (CV .i64 ((AK c ((AM c secret coins).1) more).2.2) (0:Int) rfl rfl (AF (AC (?_)))))))
        refine AO (((AK c ((AM c secret coins).1) more).2.2) != (0:Int)) rfl rfl (fun hc8926=>?_) (fun hc8926=>?_)
        ·have hp8927:(AK c ((AM c secret coins).1) more).2.2≠(0:Int):=by simpa using hc8926
         refine AG (?_)
         refine AB kR (AA (AD (vO true) rfl (AF (AC (?_)))))
         refine AP (AR (AZ rfl (CS rfl rfl rfl) (?_)))
         exact ⟨_,rfl,sl0.keep,rfl⟩
        ·have hp8928:(AK c ((AM c secret coins).1) more).2.2=(0:Int):=by simpa using hc8926
         have hrn:=VT (more:=more) hhd hp8928
         refine AU (AC (?_))
         refine AG (?_)
         refine AB kR (AA (HP (E:=Enc.share) (xs:=[]) U32_ DM MT (by decide) [] [] [] rfl rfl rfl (Parts.nil _ _ _) oT sl0 fun v8933 b8935 w8929 e8936 hb8937 s8930 m8931 k8932 hl8934=>(?_)))
         have hB8938:∀ b,v8933.ownBlock=some b→b∈(b8935 :: Bl0):=fun b hb=>by rw [hb8937] at hb;cases hb;simp
         clear e8936 hb8937
         have hl8719:=hl8719.mv m8931
         have hl8734:=hl8734.mv m8931
         refine AA (AE (x8718) rfl (AA (AE (vB pa) rfl (AA (BB (vs:=[x8718,vB pa]) QR (QI (O:=(b8935 :: Bl0)++O) x8718 ((AM c secret coins).1) pa w8929 hl8719 (by exact hL8) s8930.lt) rfl s8930 fun v8939 w8940 s8941 m8942 k8943 r8944=>(?_))))))
         obtain ⟨_,rfl,hl8945⟩:=r8944
         have:=hl8945.len_le
         have hl8719:=hl8719.mv m8942
         have hl8734:=hl8734.mv m8942
         have hl8934:=hl8934.mv m8942 k8943 (by simp)
         refine AA (DG (E:=Enc.share) (l:=[]) (m:=CM ((AM c secret coins).1) pa ((AM c secret coins).1).length) U32_ i_70 rfl (by decide) rfl rfl hl8934 hl8945 (fun _ hb=>.inl hb) hB8938 (by have h1:=HG (AM c secret coins).1 pa (AM c secret coins).1.length;have h2:=HG (AK c (AM c secret coins).1 more).2.1 (pb &&& ~~~((2:UInt8) <<< UInt8.ofNat (EB pa 8) - (1:UInt8))) (AK c (AM c secret coins).1 more).2.1.length;(simp only [List.length_nil];omega)) (by have h1:=HG (AM c secret coins).1 pa (AM c secret coins).1.length;have h2:=HG (AK c (AM c secret coins).1 more).2.1 (pb &&& ~~~((2:UInt8) <<< UInt8.ofNat (EB pa 8) - (1:UInt8))) (AK c (AM c secret coins).1 more).2.1.length;simp only [maxLen,List.length_nil];omega) s8941 fun v8950 w8946 B8952 hB8953 at8954 sub8955 s8947 m8948 k8949 ho8951=>(?_))
         rw [List.nil_append] at ho8951
         have hl8719:=hl8719.mv m8948
         have hl8734:=hl8734.mv m8948
         refine AA (AE (x8733) rfl (AA (AE (vB pb) rfl (AA (AE (vB pa) rfl (AA (BB (vs:=[vB pa]) enter_29 (c_highest (O:=B8952++O) pa w8946 s8947.lt) rfl s8947 fun v8956 w8957 s8958 m8959 k8960 r8961=>(?_))))))))
         obtain rfl:=r8961
         have hl8719:=hl8719.mv m8959
         have hl8734:=hl8734.mv m8959
         have ho8951:=ho8951.mv m8959 k8960 (by simp)
         have hh8:=high_lt pa 8 (Nat.le_refl 8)
         refine AA (o_shl8 .i64 (2:UInt8) (EB pa 8) oM rfl rfl (AA (o_sub8 ((2:UInt8) <<< UInt8.ofNat (EB pa 8)) (1:UInt8) rfl rfl (AA (o_andNot8 pb (((2:UInt8) <<< UInt8.ofNat (EB pa 8)) - (1:UInt8)) rfl rfl (AA (BB (vs:=[x8733,vB (pb &&& ~~~(((2:UInt8) <<< UInt8.ofNat (EB pa 8)) - (1:UInt8)))]) QR (QI (O:=B8952++O) x8733 ((AK c ((AM c secret coins).1) more).2.1) (pb &&& ~~~(((2:UInt8) <<< UInt8.ofNat (EB pa 8)) - (1:UInt8))) w8957 hl8734 (by exact hY8) s8958.lt) rfl s8958 fun v8962 w8963 s8964 m8965 k8966 r8967=>(?_))))))))
         obtain ⟨_,rfl,hl8968⟩:=r8967
         have:=hl8968.len_le
         have hl8719:=hl8719.mv m8965
         have ho8951:=ho8951.mv m8965 k8966 (by simp)
         refine AA (DG (E:=Enc.share) (l:=CM ((AM c secret coins).1) pa ((AM c secret coins).1).length) (m:=CM ((AK c ((AM c secret coins).1) more).2.1) (pb &&& ~~~(((2:UInt8) <<< UInt8.ofNat (EB pa 8)) - (1:UInt8))) ((AK c ((AM c secret coins).1) more).2.1).length) U32_ i_70 rfl (by decide) rfl rfl ho8951 hl8968 (fun _ hb=>.inl hb) hB8953 (by have h1:=HG (AM c secret coins).1 pa (AM c secret coins).1.length;have h2:=HG (AK c (AM c secret coins).1 more).2.1 (pb &&& ~~~((2:UInt8) <<< UInt8.ofNat (EB pa 8) - (1:UInt8))) (AK c (AM c secret coins).1 more).2.1.length;omega) (by have h1:=HG (AM c secret coins).1 pa (AM c secret coins).1.length;have h2:=HG (AK c (AM c secret coins).1 more).2.1 (pb &&& ~~~((2:UInt8) <<< UInt8.ofNat (EB pa 8) - (1:UInt8))) (AK c (AM c secret coins).1 more).2.1.length;simp only [maxLen,List.length_nil];omega) s8964 fun v8973 w8969 B8975 hB8976 at8977 sub8978 s8970 m8971 k8972 ho8974=>(?_))
         have hl8719:=hl8719.mv m8971
         refine AA (AD (v8973) rfl (AF (AC (?_))))
         refine AG (?_)
         refine AG (?_)
         refine AB kR (AA (AE (x8718) rfl (AA (AE (vB pa) rfl (AA (BB (vs:=[x8718,vB pa]) QR (QI (O:=B8975++O) x8718 ((AM c secret coins).1) pa w8969 hl8719 (by exact hL8) s8970.lt) rfl s8970 fun v8979 w8980 s8981 m8982 k8983 r8984=>(?_)))))))
         obtain ⟨_,rfl,hl8985⟩:=r8984
         have:=hl8985.len_le
         have hl8719:=hl8719.mv m8982
         have ho8974:=ho8974.mv m8982 k8983 (by simp)
         refine AA (CG U32_ rfl hl8985 (AA (EI .i64 ((CM ((AM c secret coins).1) pa ((AM c secret coins).1).length).length:Int) (0:Int) rfl rfl (AA (AE (vO (((CM ((AM c secret coins).1) pa ((AM c secret coins).1).length).length:Int) == (0:Int))) rfl (?_))))))
         cases hb8986:(((CM ((AM c secret coins).1) pa ((AM c secret coins).1).length).length:Int) == (0:Int))
         ·have hp8987:((CM ((AM c secret coins).1) pa ((AM c secret coins).1).length).length:Int)≠(0:Int):=by simpa using hb8986
          refine BE rfl (AE (v8973) rfl (BE rfl (RN U32_ rfl ho8974 (BE rfl (AE (x8718) rfl (BE rfl (AE (vB pa) rfl (BE rfl (BB (vs:=[x8718,vB pa]) QR (QI (O:=B8975++O) x8718 ((AM c secret coins).1) pa w8980 hl8719 (by exact hL8) s8981.lt) rfl s8981 fun v8988 w8989 s8990 m8991 k8992 r8993=>(?_))))))))))
          obtain ⟨_,rfl,hl8994⟩:=r8993
          have:=hl8994.len_le
          have ho8974:=ho8974.mv m8991 k8992 (by simp)
          refine BE rfl (CG U32_ rfl hl8994 (BE rfl (EI .i64 (((CM ((AM c secret coins).1) pa ((AM c secret coins).1).length)++(CM ((AK c ((AM c secret coins).1) more).2.1) (pb &&& ~~~(((2:UInt8) <<< UInt8.ofNat (EB pa 8)) - (1:UInt8))) ((AK c ((AM c secret coins).1) more).2.1).length)).length:Int) ((CM ((AM c secret coins).1) pa ((AM c secret coins).1).length).length:Int) rfl rfl (AA (BX (vO ((((CM ((AM c secret coins).1) pa ((AM c secret coins).1).length)++(CM ((AK c ((AM c secret coins).1) more).2.1) (pb &&& ~~~(((2:UInt8) <<< UInt8.ofNat (EB pa 8)) - (1:UInt8))) ((AK c ((AM c secret coins).1) more).2.1).length)).length:Int) == ((CM ((AM c secret coins).1) pa ((AM c secret coins).1).length).length:Int))) rfl rfl (AF (AC (?_))))))))
          refine AO ((((CM ((AM c secret coins).1) pa ((AM c secret coins).1).length)++(CM ((AK c ((AM c secret coins).1) more).2.1) (pb &&& ~~~(((2:UInt8) <<< UInt8.ofNat (EB pa 8)) - (1:UInt8))) ((AK c ((AM c secret coins).1) more).2.1).length)).length:Int) == ((CM ((AM c secret coins).1) pa ((AM c secret coins).1).length).length:Int)) rfl rfl (fun hc8995=>?_) (fun hc8995=>?_)
          ·have hp8996:(((CM ((AM c secret coins).1) pa ((AM c secret coins).1).length)++(CM ((AK c ((AM c secret coins).1) more).2.1) (pb &&& ~~~(((2:UInt8) <<< UInt8.ofNat (EB pa 8)) - (1:UInt8))) ((AK c ((AM c secret coins).1) more).2.1).length)).length:Int)=((CM ((AM c secret coins).1) pa ((AM c secret coins).1).length).length:Int):=by simpa using hc8995
           refine AG (?_)
           refine AB kR (AA (AD (vO true) rfl (AF (AC (?_)))))
           refine AP (AR (AZ rfl (CS rfl rfl rfl) (?_)))
           exact ⟨_,rfl,s8990.keep,rfl⟩
          ·have hp8997:(((CM ((AM c secret coins).1) pa ((AM c secret coins).1).length)++(CM ((AK c ((AM c secret coins).1) more).2.1) (pb &&& ~~~(((2:UInt8) <<< UInt8.ofNat (EB pa 8)) - (1:UInt8))) ((AK c ((AM c secret coins).1) more).2.1).length)).length:Int)≠((CM ((AM c secret coins).1) pa ((AM c secret coins).1).length).length:Int):=by simpa using hc8995
           refine AU (AC (?_))
           refine AG (?_)
           refine AB kR (AA (AE (v8973) rfl (?_)))
           obtain ⟨B8998,s8999,m9000,hl9001,hk9002⟩:=ho8974.publish s8990
           have lim9003:=hl9001.len_le
           refine AA (BB (vs:=[v8973]) TH (c_join (O:=B8998++O) v8973 ((CM ((AM c secret coins).1) pa ((AM c secret coins).1).length)++(CM ((AK c ((AM c secret coins).1) more).2.1) (pb &&& ~~~(((2:UInt8) <<< UInt8.ofNat (EB pa 8)) - (1:UInt8))) ((AK c ((AM c secret coins).1) more).2.1).length)) w8989 hl9001 s8999.lt) rfl s8999 fun v9004 w9005 s9006 m9007 k9008 r9009=>(?_))
           obtain ⟨x9010,rfl,hl9011⟩:=r9009
           have:=hl9011.len_le
           refine AA (AE (vT #[x9010,vI ((CO ((CM ((AM c secret coins).1) pa ((AM c secret coins).1).length)++(CM ((AK c ((AM c secret coins).1) more).2.1) (pb &&& ~~~(((2:UInt8) <<< UInt8.ofNat (EB pa 8)) - (1:UInt8))) ((AK c ((AM c secret coins).1) more).2.1).length))).2)]) rfl (AA (AN (x9010) rfl rfl (AA (AN (vI ((CO ((CM ((AM c secret coins).1) pa ((AM c secret coins).1).length)++(CM ((AK c ((AM c secret coins).1) more).2.1) (pb &&& ~~~(((2:UInt8) <<< UInt8.ofNat (EB pa 8)) - (1:UInt8))) ((AK c ((AM c secret coins).1) more).2.1).length))).2)) rfl rfl (AA (AD (x9010) rfl (AA (AD (vI ((CO ((CM ((AM c secret coins).1) pa ((AM c secret coins).1).length)++(CM ((AK c ((AM c secret coins).1) more).2.1) (pb &&& ~~~(((2:UInt8) <<< UInt8.ofNat (EB pa 8)) - (1:UInt8))) ((AK c ((AM c secret coins).1) more).2.1).length))).2)) rfl (AF (AC (?_))))))))))))
           refine AG (?_)
           refine AB kR (AA (AE (vI ((CO ((CM ((AM c secret coins).1) pa ((AM c secret coins).1).length)++(CM ((AK c ((AM c secret coins).1) more).2.1) (pb &&& ~~~(((2:UInt8) <<< UInt8.ofNat (EB pa 8)) - (1:UInt8))) ((AK c ((AM c secret coins).1) more).2.1).length))).2)) rfl (AA (EI .i64 ((CO ((CM ((AM c secret coins).1) pa ((AM c secret coins).1).length)++(CM ((AK c ((AM c secret coins).1) more).2.1) (pb &&& ~~~(((2:UInt8) <<< UInt8.ofNat (EB pa 8)) - (1:UInt8))) ((AK c ((AM c secret coins).1) more).2.1).length))).2) (81:Int) rfl rfl (AA (AD (vO (((CO ((CM ((AM c secret coins).1) pa ((AM c secret coins).1).length)++(CM ((AK c ((AM c secret coins).1) more).2.1) (pb &&& ~~~(((2:UInt8) <<< UInt8.ofNat (EB pa 8)) - (1:UInt8))) ((AK c ((AM c secret coins).1) more).2.1).length))).2) == (81:Int))) rfl (AF (AC (?_)))))))))
           refine AP (AZ rfl (CS rfl rfl rfl) (?_))
           have e:true=(((CO ((CM ((AM c secret coins).1) pa ((AM c secret coins).1).length)++(CM ((AK c ((AM c secret coins).1) more).2.1) (pb &&& ~~~(((2:UInt8) <<< UInt8.ofNat (EB pa 8)) - (1:UInt8))) ((AK c ((AM c secret coins).1) more).2.1).length))).2) == (81:Int)):=by (rw [mixed_old hhd.spl hrn oM rfl oM (by show 0<(CM (AK c (AM c secret coins).1 more).2.1 (pb &&& ~~~((2:UInt8) <<< UInt8.ofNat (EB pa 8) - (1:UInt8))) (AK c (AM c secret coins).1 more).2.1.length).length;have:=@List.length_append Share (CM (AM c secret coins).1 pa (AM c secret coins).1.length) (CM (AK c (AM c secret coins).1 more).2.1 (pb &&& ~~~((2:UInt8) <<< UInt8.ofNat (EB pa 8) - (1:UInt8))) (AK c (AM c secret coins).1 more).2.1.length);omega)];rfl)
           exact ⟨_,rfl,s9006.keep,(by exact congrArg vO e.symm)⟩
         ·have hp9012:((CM ((AM c secret coins).1) pa ((AM c secret coins).1).length).length:Int)=(0:Int):=by simpa using hb8986
          refine AT rfl (AT rfl (AT rfl (AT rfl (AT rfl (AT rfl (AT rfl (AA (BK (vO true) rfl rfl (AF (AC (?_)))))))))))
          refine AO true rfl rfl (fun _=>?_) (fun h=>by cases h)
          refine AG (?_)
          refine AB kR (AA (AD (vO true) rfl (AF (AC (?_)))))
          refine AP (AR (AZ rfl (CS rfl rfl rfl) (?_)))
          exact ⟨_,rfl,s8981.keep,rfl⟩
   ·have hp9013:(200:Int)<(coins.length:Int):=by simpa using hb8705
    refine AT rfl (AT rfl (AT rfl (AA (BK (vO true) rfl rfl (AF (AC (?_)))))))
    refine AO true rfl rfl (fun _=>?_) (fun h=>by cases h)
    refine AG (?_)
    refine AB kR (AA (AD (vO true) rfl (AF (AC (?_)))))
    refine AP (AR (AZ rfl (CS rfl rfl rfl) (?_)))
    exact ⟨_,rfl,s8697.keep,rfl⟩
  ·have hp9014:(20:Int)<(secret.length:Int):=by simpa using hb8703
   refine AT rfl (AT rfl (AT rfl (AA (BK (vO true) rfl rfl (AA (AE (vO true) rfl (AT rfl (AT rfl (AT rfl (AA (BK (vO true) rfl rfl (AF (AC (?_))))))))))))))
   refine AO true rfl rfl (fun _=>?_) (fun h=>by cases h)
   refine AG (?_)
   refine AB kR (AA (AD (vO true) rfl (AF (AC (?_)))))
   refine AP (AR (AZ rfl (CS rfl rfl rfl) (?_)))
   exact ⟨_,rfl,s8697.keep,rfl⟩
 ·have hp9015:(MU c && OZ ([]))=false:=by (have e:=hb8701;rw [Bool.not_eq_true'] at e;exact e)
  refine AT rfl (AT rfl (AT rfl (AA (BK (vO true) rfl rfl (AA (AE (vO true) rfl (AT rfl (AT rfl (AT rfl (AA (BK (vO true) rfl rfl (AA (AE (vO true) rfl (AT rfl (AT rfl (AT rfl (AA (BK (vO true) rfl rfl (AF (AC (?_)))))))))))))))))))))
  refine AO true rfl rfl (fun _=>?_) (fun h=>by cases h)
  refine AG (?_)
  refine AB kR (AA (AD (vO true) rfl (AF (AC (?_)))))
  refine AP (AR (AZ rfl (CS rfl rfl rfl) (?_)))
  exact ⟨_,rfl,s8697.keep,rfl⟩
end Go.Proofs.Ytjgfokolnkhafaa
