/- What the laws of this part rest on: lemmas, and the walks of the functions. No conditions. -/
import Derived.WalkKit
import Derived.WalkSpells
import Derived.WalkLawsBesides
import Derived.RangeFuncLeaves
import Derived.Maps.AppendAt
import Derived.Deep.AppendLies
import Derived.Deep.Slices
import Derived.OpenShut
import Derived.ProofKit
import Derived.Below
import Derived.ChangeSame
import Derived.Carry
import Derived.RangeFuncRecord
import Derived.Laws.Tables
import Derived.Recover
import Derived.DefersIn
import Derived.Lib.AppendZerosOnto
import Derived.Lib.Overlaps
import Derived.Laws.CopyRow
import Derived.Laws.StructEq
import Derived.ChangeKeysEq
import Derived.Test.YtpdekmknnpkmgaaRows
import Derived.Test.YtpdekmknnpkmgaaPG11
set_option linter.unusedSimpArgs false
set_option linter.unusedVariables false
namespace Go.Proofs.Ytpdekmknnpkmgaa
open Go.Fw Go.RowKit
theorem IA:DI Try.prog 3=some 1:=by kernel_rfl
theorem z_3:FN Try.prog 3=some (.int .i64 0):=by kernel_rfl
theorem i_3:(Try.prog.info? 3).map (fun i=>(i.zero,i.size,i.bytes))=some (some (.int .i64 0),1,8):=by kernel_rfl
theorem s_4:DI Try.prog 4=some 1:=by kernel_rfl
theorem s_22:DI Try.prog 22=some 1:=by kernel_rfl
theorem MQ:DI Try.prog 23=some 1:=by kernel_rfl
theorem AV:DI Try.prog 25=some 5:=by kernel_rfl
theorem EZ:FN Try.prog 25=some (.agg #[.int .i64 0, .int .i64 0, .int .i64 0, .slice none 0 0, .slice none 0 0]):=by kernel_rfl
theorem NC:HW Try.prog 25=some [(0,1),(1,1),(2,1),(3,1),(4,1)]:=by kernel_rfl
theorem f_25_0:CG Try.prog 25 0=some 0:=by kernel_rfl
theorem f_25_1:CG Try.prog 25 1=some 1:=by kernel_rfl
theorem f_25_2:CG Try.prog 25 2=some 2:=by kernel_rfl
theorem KG:CG Try.prog 25 3=some 3:=by kernel_rfl
theorem BR:CG Try.prog 25 4=some 4:=by kernel_rfl
theorem IH:DI Try.prog 28=some 1:=by kernel_rfl
theorem z_28:FN Try.prog 28=some (.int .i64 0):=by kernel_rfl
theorem s_41:DI Try.prog 41=some 4:=by kernel_rfl
theorem z_41:FN Try.prog 41=some (.agg #[.int .u8 0, .int .u8 0, .int .u8 0, .int .i64 0]):=by kernel_rfl
theorem KR:CG Try.prog 41 0=some 0:=by kernel_rfl
theorem f_41_1:CG Try.prog 41 1=some 1:=by kernel_rfl
theorem f_41_2:CG Try.prog 41 2=some 2:=by kernel_rfl
theorem MA:CG Try.prog 41 3=some 3:=by kernel_rfl
theorem LH:DI Try.prog 44=some 4:=by kernel_rfl
theorem z_44:FN Try.prog 44=some (.agg #[.int .i64 0, .int .i64 0, .slice none 0 0, .bool false]):=by kernel_rfl
theorem i_44:(Try.prog.info? 44).map (fun i=>(i.zero,i.size,i.bytes))=some (some (.agg #[.int .i64 0, .int .i64 0, .slice none 0 0, .bool false]),4,48):=by kernel_rfl
theorem pl_44:HW Try.prog 44=some [(0,1),(1,1),(2,1),(3,1)]:=by kernel_rfl
theorem f_44_0:CG Try.prog 44 0=some 0:=by kernel_rfl
theorem JK:CG Try.prog 44 1=some 1:=by kernel_rfl
theorem JI:CG Try.prog 44 2=some 2:=by kernel_rfl
theorem MB:CG Try.prog 44 3=some 3:=by kernel_rfl
theorem DC:DI Try.prog 47=some 5:=by kernel_rfl
theorem HH:FN Try.prog 47=some (.agg #[.int .i64 0, .int .i64 0, .int .i64 0, .slice none 0 0, .slice none 0 0]):=by kernel_rfl
theorem LE:(Try.prog.info? 47).map (fun i=>(i.zero,i.size,i.bytes))=some (some (.agg #[.int .i64 0, .int .i64 0, .int .i64 0, .slice none 0 0, .slice none 0 0]),5,72):=by kernel_rfl
theorem pl_47:HW Try.prog 47=some [(0,1),(1,1),(2,1),(3,1),(4,1)]:=by kernel_rfl
theorem f_47_0:CG Try.prog 47 0=some 0:=by kernel_rfl
theorem HM:CG Try.prog 47 1=some 1:=by kernel_rfl
theorem EM:CG Try.prog 47 2=some 2:=by kernel_rfl
theorem HF:CG Try.prog 47 3=some 3:=by kernel_rfl
theorem f_47_4:CG Try.prog 47 4=some 4:=by kernel_rfl
theorem z_74:FN Try.prog 74=some (.agg #[.int .i64 0, .int .i64 0, .int .i64 0, .slice none 0 0, .slice none 0 0]):=by kernel_rfl
theorem pl_74:HW Try.prog 74=some [(0,5)]:=by kernel_rfl
theorem DY:CG Try.prog 74 0=some 0:=by kernel_rfl
theorem s_78:DI Try.prog 78=some 1:=by kernel_rfl
theorem LV:FN Try.prog 78=some (.agg #[.int .i64 0]):=by kernel_rfl
theorem JA:HW Try.prog 78=some [(0,1)]:=by kernel_rfl
theorem f_78_0:CG Try.prog 78 0=some 0:=by kernel_rfl
theorem enter_9 (xs:Array Value) (w:World):(callFunc 9 xs).run Try.prog w = .ok (.enter 9 xs) w:=BD Try.func9 (by kernel_rfl) rfl xs w
theorem ME (xs:Array Value) (w:World):(callFunc 11 xs).run Try.prog w = .ok (.enter 11 xs) w:=BD Try.func11 (by kernel_rfl) rfl xs w
theorem LQ (xs:Array Value) (w:World):(callFunc 13 xs).run Try.prog w = .ok (.enter 13 xs) w:=BD Try.func13 (by kernel_rfl) rfl xs w
theorem ET (xs:Array Value) (w:World):(callFunc 16 xs).run Try.prog w = .ok (.enter 16 xs) w:=BD Try.func16 (by kernel_rfl) rfl xs w
theorem HO (xs:Array Value) (w:World):(callFunc 18 xs).run Try.prog w = .ok (.enter 18 xs) w:=BD Try.func18 (by kernel_rfl) rfl xs w
theorem LU (xs:Array Value) (w:World):(callFunc 20 xs).run Try.prog w = .ok (.enter 20 xs) w:=BD Try.func20 (by kernel_rfl) rfl xs w
theorem IK (xs:Array Value) (w:World):(callFunc 22 xs).run Try.prog w = .ok (.enter 22 xs) w:=BD Try.func22 (by kernel_rfl) rfl xs w
theorem enter_24 (xs:Array Value) (w:World):(callFunc 24 xs).run Try.prog w = .ok (.enter 24 xs) w:=BD Try.func24 (by kernel_rfl) rfl xs w
theorem enter_25 (xs:Array Value) (w:World):(callFunc 25 xs).run Try.prog w = .ok (.enter 25 xs) w:=BD Try.func25 (by kernel_rfl) rfl xs w
theorem enter_26 (xs:Array Value) (w:World):(callFunc 26 xs).run Try.prog w = .ok (.enter 26 xs) w:=BD Try.func26 (by kernel_rfl) rfl xs w
theorem enter_28 (xs:Array Value) (w:World):(callFunc 28 xs).run Try.prog w = .ok (.enter 28 xs) w:=BD Try.func28 (by kernel_rfl) rfl xs w
theorem enter_29 (xs:Array Value) (w:World):(callFunc 29 xs).run Try.prog w = .ok (.enter 29 xs) w:=BD Try.func29 (by kernel_rfl) rfl xs w
theorem GX (xs:Array Value) (w:World):(callFunc 30 xs).run Try.prog w = .ok (.enter 30 xs) w:=BD Try.func30 (by kernel_rfl) rfl xs w
theorem GG (xs:Array Value) (w:World):(callFunc 31 xs).run Try.prog w = .ok (.enter 31 xs) w:=BD Try.func31 (by kernel_rfl) rfl xs w
theorem enter_33 (xs:Array Value) (w:World):(callFunc 33 xs).run Try.prog w = .ok (.enter 33 xs) w:=BD Try.func33 (by kernel_rfl) rfl xs w
theorem enter_34 (xs:Array Value) (w:World):(callFunc 34 xs).run Try.prog w = .ok (.enter 34 xs) w:=BD Try.func34 (by kernel_rfl) rfl xs w
theorem MC (xs:Array Value) (w:World):(callFunc 37 xs).run Try.prog w = .ok (.enter 37 xs) w:=BD Try.func37 (by kernel_rfl) rfl xs w
theorem enter_38 (xs:Array Value) (w:World):(callFunc 38 xs).run Try.prog w = .ok (.enter 38 xs) w:=BD Try.func38 (by kernel_rfl) rfl xs w
theorem MF (xs:Array Value) (w:World):(callFunc 39 xs).run Try.prog w = .ok (.enter 39 xs) w:=BD Try.func39 (by kernel_rfl) rfl xs w
theorem enter_40 (xs:Array Value) (w:World):(callFunc 40 xs).run Try.prog w = .ok (.enter 40 xs) w:=BD Try.func40 (by kernel_rfl) rfl xs w
theorem ES (xs:Array Value) (w:World):(callFunc 41 xs).run Try.prog w = .ok (.enter 41 xs) w:=BD Try.func41 (by kernel_rfl) rfl xs w
theorem enter_42 (xs:Array Value) (w:World):(callFunc 42 xs).run Try.prog w = .ok (.enter 42 xs) w:=BD Try.func42 (by kernel_rfl) rfl xs w
theorem enter_43 (xs:Array Value) (w:World):(callFunc 43 xs).run Try.prog w = .ok (.enter 43 xs) w:=BD Try.func43 (by kernel_rfl) rfl xs w
theorem enter_44 (xs:Array Value) (w:World):(callFunc 44 xs).run Try.prog w = .ok (.enter 44 xs) w:=BD Try.func44 (by kernel_rfl) rfl xs w
theorem enter_45 (xs:Array Value) (w:World):(callFunc 45 xs).run Try.prog w = .ok (.enter 45 xs) w:=BD Try.func45 (by kernel_rfl) rfl xs w
theorem enter_49 (xs:Array Value) (w:World):(callFunc 49 xs).run Try.prog w = .ok (.enter 49 xs) w:=BD Try.func49 (by kernel_rfl) rfl xs w
theorem enter_50 (xs:Array Value) (w:World):(callFunc 50 xs).run Try.prog w = .ok (.enter 50 xs) w:=BD Try.func50 (by kernel_rfl) rfl xs w
theorem enter_51 (xs:Array Value) (w:World):(callFunc 51 xs).run Try.prog w = .ok (.enter 51 xs) w:=BD Try.func51 (by kernel_rfl) rfl xs w
theorem enter_52 (xs:Array Value) (w:World):(callFunc 52 xs).run Try.prog w = .ok (.enter 52 xs) w:=BD Try.func52 (by kernel_rfl) rfl xs w
theorem enter_53 (xs:Array Value) (w:World):(callFunc 53 xs).run Try.prog w = .ok (.enter 53 xs) w:=BD Try.func53 (by kernel_rfl) rfl xs w
theorem enter_54 (xs:Array Value) (w:World):(callFunc 54 xs).run Try.prog w = .ok (.enter 54 xs) w:=BD Try.func54 (by kernel_rfl) rfl xs w
theorem enter_55 (xs:Array Value) (w:World):(callFunc 55 xs).run Try.prog w = .ok (.enter 55 xs) w:=BD Try.func55 (by kernel_rfl) rfl xs w
theorem enter_56 (xs:Array Value) (w:World):(callFunc 56 xs).run Try.prog w = .ok (.enter 56 xs) w:=BD Try.func56 (by kernel_rfl) rfl xs w
theorem enter_57 (xs:Array Value) (w:World):(callFunc 57 xs).run Try.prog w = .ok (.enter 57 xs) w:=BD Try.func57 (by kernel_rfl) rfl xs w
theorem DJ (xs:Array Value) (w:World):(callFunc 59 xs).run Try.prog w = .ok (.enter 59 xs) w:=BD Try.func59 (by kernel_rfl) rfl xs w
theorem enter_60 (xs:Array Value) (w:World):(callFunc 60 xs).run Try.prog w = .ok (.enter 60 xs) w:=BD Try.func60 (by kernel_rfl) rfl xs w
theorem enter_61 (xs:Array Value) (w:World):(callFunc 61 xs).run Try.prog w = .ok (.enter 61 xs) w:=BD Try.func61 (by kernel_rfl) rfl xs w
theorem enter_62 (xs:Array Value) (w:World):(callFunc 62 xs).run Try.prog w = .ok (.enter 62 xs) w:=BD Try.func62 (by kernel_rfl) rfl xs w
theorem enter_63 (xs:Array Value) (w:World):(callFunc 63 xs).run Try.prog w = .ok (.enter 63 xs) w:=BD Try.func63 (by kernel_rfl) rfl xs w
theorem enter_64 (xs:Array Value) (w:World):(callFunc 64 xs).run Try.prog w = .ok (.enter 64 xs) w:=BD Try.func64 (by kernel_rfl) rfl xs w
theorem ov_65 (x y:Value) (w:World) (h:(Extern.SlicesOverlaps.overlaps #[22,22] #[4] #[x,y]).run Try.prog w = .ok (.bool false) w):(callFunc 65 #[x,y]).run Try.prog w = .ok (.value (.bool false)) w:=by
  rw [run_callFunc_extern Try.func65 (by kernel_rfl) (by kernel_rfl) (by kernel_rfl) (e:=Extern.SlicesOverlaps.overlaps #[22,22] #[4]) (by kernel_rfl),h];rfl
theorem enter_67 (xs:Array Value) (w:World):(callFunc 67 xs).run Try.prog w = .ok (.enter 67 xs) w:=BD Try.func67 (by kernel_rfl) rfl xs w
open Go.Fw Go.RowKit
set_option maxHeartbeats 4000000 in
set_option maxRecDepth 100000 in
theorem NN {O B:List Nat} {w0 w:World} (v u:Value) (l m:List Int) (i:Nat) (s0:St w0 O w B) (ho:DX Enc.int 3 w0.heap.size (B++O) w v l) (hu:DX Enc.int 3 w0.heap.size (B++O) w u m) (hB:∀ b,v.ownBlock=some b→b∈B) (b5:∀ b,u.ownBlock=some b→b∈B) (hne:∀ b,v.ownBlock=some b→u.ownBlock≠some b) (hm:0<m.length) (hi:i≤l.length) (hlen:(l.length+m.length)*8≤140737488355328) (a8:l.length+m.length≤maxLen):Calls Try.prog 62 [v,vI (i:Int),u].toArray w (fun e w'=>∃ (v':Value) (B':List Nat),e = .returned v'∧(∀ b,v'.ownBlock=some b→b∈B')∧(∀ b,v'.ownBlock=some b→v.ownBlock=some b∨w.heap.size≤b)∧(∀ b∈B,b∈B')∧St w0 O w' B'∧Mv B w B' w'∧Keep v.ownBlock.toList w w'∧DX Enc.int 3 w0.heap.size (B'++O) w' v' (l.take i++m++l.drop i)):= by
  have ms:Mv B w B w:=Mv.refl _ _
  have ks:Keep v.ownBlock.toList w w:=Keep.refl _ _
  have c9:=a8
  simp only [maxLen] at c9
  refine BC 95 Try.func62 rfl rfl oT (fun F0=>AF (AB kR (AA (AG (nS) rfl (AE (AC (AF (AB kR (AA (AD (v) rfl (AA (AD (vI (i:Int)) rfl (AA (o_sliceOwn U22_ IA i .i64 (i:Int) rfl rfl rfl oM ho fun v1 hs2=>(AE (AC (AF (AB kR (AA (AD (u) rfl (AA (GU U22_ rfl hu (AA (AG (vI (m.length:Int)) rfl (AE (AC (AF (AF (AB kR (AA (AD (vI (m.length:Int)) rfl (AA (CS .i64 (m.length:Int) (0:Int) rfl rfl (AE (AC (?_))))))))))))))))))))))))))))))))))))
  have hb3:((m.length:Int) == (0:Int))=false:=(by rw [beq_eq_false_iff_ne];omega)
  rw [hb3]
  refine AP false rfl rfl (fun h=>by cases h) (fun _=>AZ (AC (AF (AB kR (AA (AD (v) rfl (AA (GU U22_ rfl ho (AA (AG (vI (l.length:Int)) rfl (AE (AC (AF (AF (AB kR (AA (AD (vI (i:Int)) rfl (AA (AD (vI (l.length:Int)) rfl (AA (CS .i64 (i:Int) (l.length:Int) rfl rfl (AE (AC (AP ((i:Int) == (l.length:Int)) rfl rfl (fun hc4=>?_) (fun hc4=>?_)))))))))))))))))))))))))
  · have hp5:(i:Int)=(l.length:Int):=by simpa using hc4
    refine AF (AB kR (AA (AD (v) rfl (AA (AD (u) rfl (AA (o_appendOO (E:=Enc.int) (l:=l) (m:=m) U22_ i_3 rfl (by decide) rfl rfl ho hu  hB hlen a8 s0 fun b6 w6 c6 d0 b7 b2 s7 m8 k9 b8=>(?_))))))))
    have f7:∀ b,u.ownBlock=some b→b6.ownBlock≠some b:=fun b hb e=>by rcases b7 with e1|e1 <;> rw [e1] at e <;> first|(cases e;have:=(hu.lt _ hb).2;omega)|(exact absurd e ((fun b hb e=>hne b e hb) b hb))
    have b5:∀ b,u.ownBlock=some b→b∈c6:=fun b hb=>b2 b (b5 b hb)
    have hu:=hu.mv m8 k9 (fun b hb=>by simp only [Option.mem_toList];exact (fun b hb e=>hne b e hb) b hb)
    have ms:=ms.trans m8
    have ks:=ks.step0 k9 (fun b hb=>by exact .inl hb)
    refine AA (AG (b6) rfl (AE (AC (AT (BA (BF rfl (CU rfl rfl rfl) (?_)))))))
    rw [show l++m=l.take i++m++l.drop i from by rw [show i=l.length from by omega,List.take_length,List.drop_length,List.append_nil]] at b8
    exact ⟨b6,c6,rfl,d0,fun b hb=>by rcases b7 with e1|e1 <;> rw [e1] at hb;exact .inl hb;cases hb;exact .inr (Nat.le_refl _),b2,s7,ms,ks,b8⟩
  have f8:(i:Int)≠(l.length:Int):=by simpa using hc4
  obtain ⟨g,c,cur,css,rfl,hgb,bg,hnc,hcm,hcl,hcss,hrd⟩:=own_open ho oM
  obtain ⟨gu,cu,curu,cssu,rfl,hgub,bgu,hncu,hcmu,hclu,hcssu,a4⟩:=own_open hu oM
  have hgB:g∈B:=hB g rfl
  have hguB:gu∈B:=b5 gu rfl
  have hgg:g≠gu:=fun e=>hne g rfl (by rw [e];rfl)
  have hns:l.length*Enc.int.size≤cur.length:=by rw [hcl];exact Nat.mul_le_mul_right _ hnc
  have b3:m.length*Enc.int.size≤curu.length:=by rw [hclu];exact Nat.mul_le_mul_right _ hncu
  have one1:=ones_drop hrd hcss hi hns
  have one2:=ones_all a4 hcssu
  have hfm:=a4.flen
  refine AZ (AC (AF (AF (AB kR (AA (AD (vI (l.length:Int)) rfl (AA (AD (vI (m.length:Int)) rfl (AA (DQ .i64 (l.length:Int) (m.length:Int) (((l.length+m.length:Nat):Int)) rfl rfl (HR oM oM) (AA (AD (vS (some ⟨g,0,none⟩) l.length c) rfl (AA (o_cap _ _ c U22_ rfl (AA (JD .i64 ((l.length+m.length:Nat):Int) ((c:Nat):Int) rfl rfl (AE (AC (AP (decide (((c:Nat):Int)<((l.length+m.length:Nat):Int))) rfl rfl (fun a9=>?_) (fun a9=>?_))))))))))))))))))))
  · have f9:((c:Nat):Int)<((l.length+m.length:Nat):Int):=by simpa using a9
    refine AF (AB kR (AA (AD (vS (some ⟨g,0,none⟩) l.length c) rfl (AA (AD (vI (i:Int)) rfl (AA (NF (size:=Enc.int.size) U22_ IA g 0 l.length c i .i64 (i:Int) rfl rfl rfl oM (AA (AD (vI (l.length:Int)) rfl (AA (AD (vI (m.length:Int)) rfl (AA (DQ .i64 (l.length:Int) (m.length:Int) (((l.length+m.length:Nat):Int)) rfl rfl (HR oM oM) (AA (AD (vI (i:Int)) rfl (AA (o_sub .i64 ((l.length+m.length:Nat):Int) (i:Int) ((((l.length+m.length) - i:Nat):Int)) rfl rfl (HR oM oM) (AA (o_appendZ (size:=Enc.int.size) (i:=i) ((l.length+m.length) - i) (l.length+m.length) (((l.length+m.length) - i:Nat):Int) oM U22_ U3_ i_3 rfl (by decide) rfl rfl rfl bg (by rw [hcl];exact Nat.mul_le_mul_right _ oM) oM oM hlen a8 s0 fun a0 a1 b4 g2 d8 d1 d9 e0 b9 d2 a2 g0 d3 d4=>(?_))))))))))))))))))))
    have c0:g≠a0:=by have:=bg.lt;omega
    have c1:gu≠a0:=by have:=bgu.lt;omega
    have b0:w.heap.size≤a0:=by have:=ks.size;omega
    clear d8
    have bg:=bg.keep b9 (by simp)
    have bgu:=bgu.keep b9 (by simp)
    have ms:=ms.trans e0
    have ks:=ks.step0 b9 (fun b hb=>by (simp at hb;done))
    refine AA (AG (vS (some ⟨a0,0,none⟩) (l.length+m.length) a1) rfl (AE (AC (AF (AB kR (AA (AD (vS (some ⟨a0,0,none⟩) (l.length+m.length) a1) rfl (AA (AD (vI (i:Int)) rfl (AA (FZ (size:=Enc.int.size) U22_ IA a0 (l.length+m.length) a1 i .i64 (i:Int) rfl rfl rfl oM oM oM (AA (AD (vS (some ⟨gu,0,none⟩) m.length cu) rfl (AA (IW (size:=Enc.int.size) m.length U22_ IA rfl rfl d2 bgu (by repeat (constructor)) (by simp only [Nat.min_def];split <;> omega) (by rw [a2,← Nat.add_mul];exact Nat.mul_le_mul_right _ oM) (by rw [Nat.zero_add];exact b3) one2 d9 fun e2 e3 e4 c2 b1=>(?_))))))))))))))))
    have a5:(DZ b4 (i*Enc.int.size) ((curu.drop 0).take (m.length*Enc.int.size))).length=a1*Enc.int.size:=by rw [HV (by rw [List.length_take,List.length_drop,Nat.min_eq_left (by have h2:=((by rw [Nat.zero_add];exact b3):0+m.length*Enc.int.size≤curu.length);omega)];exact (by rw [a2,← Nat.add_mul];exact Nat.mul_le_mul_right _ oM))];exact a2
    have bg:=bg.keep c2 (AM c0)
    have bgu:=bgu.keep c2 (AM c1)
    have ms:=ms.trans e4
    have ks:=ks.step0 c2 (fun b hb=>by (simp only [List.mem_singleton] at hb;subst hb;(right;omega)))
    refine AE (AC (AF (IP 8 _ _ kR kR kR kR kR rfl rfl fun e5 a3=>?_)))
    have e6:=e3.call a3
    have e7:Mv (a0 :: B) e2 (a0 :: B) e5:=Mv.of_keep a3
    have bg:=bg.keep a3 (by simp)
    have bgu:=bgu.keep a3 (by simp)
    have b1:=b1.keep a3 (by simp)
    have ms:=ms.trans e7
    have ks:=ks.step0 a3 (fun b hb=>by (simp at hb;done))
    refine DM (AD (vS (some ⟨a0,0,none⟩) (l.length+m.length) a1) rfl (DM (AD (vI (i:Int)) rfl (DM (AD (vI (m.length:Int)) rfl (DM (DQ .i64 (i:Int) (m.length:Int) (((i+m.length:Nat):Int)) rfl rfl (HR oM oM) (DM (FZ (size:=Enc.int.size) U22_ IA a0 (l.length+m.length) a1 (i+m.length) .i64 ((i+m.length:Nat):Int) rfl rfl rfl oM oM oM (DM (AD (vS (some ⟨g,0,none⟩) l.length c) rfl (DM (AD (vI (i:Int)) rfl (DM (FZ (size:=Enc.int.size) U22_ IA g l.length c i .i64 (i:Int) rfl rfl rfl oM oM oM (JJ (AA (IW (size:=Enc.int.size) (l.length - i) U22_ IA rfl rfl b1 bg (by repeat (constructor)) (by simp only [Nat.min_def];split <;> omega) (by rw [a5,← Nat.add_mul];exact Nat.mul_le_mul_right _ oM) (by rw [← Nat.add_mul];exact Nat.le_trans (Nat.mul_le_mul_right _ oM) hns) one1 e6 fun g3 e8 e9 c3 d5=>(?_)))))))))))))))))))
    have c4:(DZ (DZ b4 (i*Enc.int.size) ((curu.drop 0).take (m.length*Enc.int.size))) ((i+m.length)*Enc.int.size) ((cur.drop (i*Enc.int.size)).take ((l.length - i)*Enc.int.size))).length=a1*Enc.int.size:=by rw [HV (by rw [List.length_take,List.length_drop,Nat.min_eq_left (by have h2:=((by rw [← Nat.add_mul];exact Nat.le_trans (Nat.mul_le_mul_right _ oM) hns):(i*Enc.int.size)+(l.length - i)*Enc.int.size≤cur.length);omega)];exact (by rw [a5,← Nat.add_mul];exact Nat.mul_le_mul_right _ oM))];exact a5
    have bg:=bg.keep c3 (AM c0)
    have bgu:=bgu.keep c3 (AM c1)
    have ms:=ms.trans e9
    have ks:=ks.step0 c3 (fun b hb=>by (simp only [List.mem_singleton] at hb;subst hb;(right;omega)))
    refine AE (AC (AF (AB kR (AA (AD (vS (some ⟨a0,0,none⟩) (l.length+m.length) a1) rfl (AA (AG (vS (some ⟨a0,0,none⟩) (l.length+m.length) a1) rfl (AE (AC (AT (BA (BF rfl (CU rfl rfl rfl) (?_)))))))))))))
    exact ⟨_,(a0 :: B),rfl,fun b hb=>by cases hb;exact (by repeat (constructor)),fun b hb=>by cases hb;exact .inr b0,fun b hb=>List.mem_cons_of_mem _ hb,e8,ms,ks,DX.ins hrd a4 ms d5 d1 hi c4 oM d3 (tk_grow hcss hrd.lens hrd.1 hi hns hcssu hfm d4 (by rw [a2];exact Nat.mul_le_mul_right _ oM))⟩
  have g1:((l.length+m.length:Nat):Int)≤((c:Nat):Int):=by simpa using a9
  refine AZ (AC (AF (AB kR (AA (AD (vS (some ⟨g,0,none⟩) l.length c) rfl (AA (AD (vI (l.length:Int)) rfl (AA (AD (vI (m.length:Int)) rfl (AA (DQ .i64 (l.length:Int) (m.length:Int) (((l.length+m.length:Nat):Int)) rfl rfl (HR oM oM) (AA (NF (size:=Enc.int.size) U22_ IA g 0 l.length c (l.length+m.length) .i64 ((l.length+m.length:Nat):Int) rfl rfl rfl oM (AA (AG (vS (some ⟨g,0,none⟩) (l.length+m.length) c) rfl (AE (AC (AF (AF (AB kR (AA (AD (vS (some ⟨gu,0,none⟩) m.length cu) rfl (AA (AD (vS (some ⟨g,0,none⟩) (l.length+m.length) c) rfl (AA (AD (vI (i:Int)) rfl (AA (AD (vI (m.length:Int)) rfl (AA (DQ .i64 (i:Int) (m.length:Int) (((i+m.length:Nat):Int)) rfl rfl (HR oM oM) (AA (FZ (size:=Enc.int.size) U22_ IA g (l.length+m.length) c (i+m.length) .i64 ((i+m.length:Nat):Int) rfl rfl rfl oM oM oM (AA (o_overlaps (size:=Enc.int.size) ov_65 U22_ IA rfl bgu bg (Ne.symm hgg) (by rw [hcl];exact Nat.mul_pos oM (by decide)) (AA (EI false rfl (AE (AC (AP true rfl rfl (fun _=>AF (IP 8 _ _ kR kR kR kR kR rfl rfl fun f0 a7=>?_)) (fun h=>by cases h))))))))))))))))))))))))))))))))))))))))
  have f1:=s0.call a7
  have f2:Mv B w B f0:=Mv.of_keep a7
  have bg:=bg.keep a7 (by simp)
  have bgu:=bgu.keep a7 (by simp)
  have ms:=ms.trans f2
  have ks:=ks.step0 a7 (fun b hb=>by (simp at hb;done))
  refine DM (AD (vS (some ⟨g,0,none⟩) (l.length+m.length) c) rfl (DM (AD (vI (i:Int)) rfl (DM (AD (vI (m.length:Int)) rfl (DM (DQ .i64 (i:Int) (m.length:Int) (((i+m.length:Nat):Int)) rfl rfl (HR oM oM) (DM (FZ (size:=Enc.int.size) U22_ IA g (l.length+m.length) c (i+m.length) .i64 ((i+m.length:Nat):Int) rfl rfl rfl oM oM oM (DM (AD (vS (some ⟨g,0,none⟩) (l.length+m.length) c) rfl (DM (AD (vI (i:Int)) rfl (DM (FZ (size:=Enc.int.size) U22_ IA g (l.length+m.length) c i .i64 (i:Int) rfl rfl rfl oM oM oM (JJ (AA (IW (size:=Enc.int.size) (l.length - i) U22_ IA rfl rfl bg bg (by repeat (assumption)) (by simp only [Nat.min_def];split <;> omega) (by rw [hcl,← Nat.add_mul];exact Nat.mul_le_mul_right _ oM) (by rw [← Nat.add_mul];exact Nat.le_trans (Nat.mul_le_mul_right _ oM) hns) one1 f1 fun g4 f3 f4 c7 d6=>(?_)))))))))))))))))))
  have a6:(DZ cur ((i+m.length)*Enc.int.size) ((cur.drop (i*Enc.int.size)).take ((l.length - i)*Enc.int.size))).length=c*Enc.int.size:=by rw [HV (by rw [List.length_take,List.length_drop,Nat.min_eq_left (by have h2:=((by rw [← Nat.add_mul];exact Nat.le_trans (Nat.mul_le_mul_right _ oM) hns):(i*Enc.int.size)+(l.length - i)*Enc.int.size≤cur.length);omega)];exact (by rw [hcl,← Nat.add_mul];exact Nat.mul_le_mul_right _ oM))];exact hcl
  have bgu:=bgu.keep c7 (AM (Ne.symm hgg))
  have ms:=ms.trans f4
  have ks:=ks.step0 c7 (fun b hb=>by exact .inl hb)
  refine AE (AC (AF (AB kR (AA (AD (vS (some ⟨g,0,none⟩) (l.length+m.length) c) rfl (AA (AD (vI (i:Int)) rfl (AA (FZ (size:=Enc.int.size) U22_ IA g (l.length+m.length) c i .i64 (i:Int) rfl rfl rfl oM oM oM (AA (AD (vS (some ⟨gu,0,none⟩) m.length cu) rfl (AA (IW (size:=Enc.int.size) m.length U22_ IA rfl rfl d6 bgu (by repeat (assumption)) (by simp only [Nat.min_def];split <;> omega) (by rw [a6,← Nat.add_mul];exact Nat.mul_le_mul_right _ oM) (by rw [Nat.zero_add];exact b3) one2 f3 fun g5 f5 f6 c8 d7=>(?_))))))))))))))
  have c5:(DZ (DZ cur ((i+m.length)*Enc.int.size) ((cur.drop (i*Enc.int.size)).take ((l.length - i)*Enc.int.size))) (i*Enc.int.size) ((curu.drop 0).take (m.length*Enc.int.size))).length=c*Enc.int.size:=by rw [HV (by rw [List.length_take,List.length_drop,Nat.min_eq_left (by have h2:=((by rw [Nat.zero_add];exact b3):0+m.length*Enc.int.size≤curu.length);omega)];exact (by rw [a6,← Nat.add_mul];exact Nat.mul_le_mul_right _ oM))];exact a6
  have bgu:=bgu.keep c8 (AM (Ne.symm hgg))
  have ms:=ms.trans f6
  have ks:=ks.step0 c8 (fun b hb=>by exact .inl hb)
  refine AE (AC (AF (AB kR (AA (AD (vS (some ⟨g,0,none⟩) (l.length+m.length) c) rfl (AA (AG (vS (some ⟨g,0,none⟩) (l.length+m.length) c) rfl (AE (AC (AT (BA (BF rfl (CU rfl rfl rfl) (?_)))))))))))))
  exact ⟨_,B,rfl,fun b hb=>by cases hb;exact (by repeat (assumption)),fun b hb=>by cases hb;exact .inl rfl,fun b hb=>hb,f5,ms,ks,DX.ins hrd a4 ms d7 hgb hi c5 oM hcm (tk_shift hcss hrd.lens hrd.1 hi (by rw [hcl];exact Nat.mul_le_mul_right _ oM) hcssu hfm)⟩
open Go.Fw
def GL (l:List Int) (k:Nat):Int:=if k=0 then -1 else l[k - 1]!
def GH (l:List Int) (k:Nat):Bool:=decide (l[k]!≤GL l k) || decide (4096≤l[k]!)
def ER (l:List Int):Bool:=HI (fun k=>if GH l k then some false else none) true 0 (l.length - 0)
def BI (d f:Int):Bool:=decide (f≤d) && decide (d<1024)
def CP (r:Recovery):Bool:=
  if (decide (r.state<0) || decide (2<r.state)) || !ER r.approved then false
  else if r.state == 2 then ((r.vetoed.length:Int) == 1) && BI r.vetoed[0]! r.asked else (r.vetoed.length:Int) == 0
def CZ (l:List Recovery) (k:Nat):Int:=if k=0 then 0 else l[k - 1]!.asked
def DE (l:List Recovery) (k:Nat):Bool:=
  ((l[k]!.no != (k:Int) || !BI l[k]!.asked (CZ l k)) || !CP l[k]!) || (l[k]!.state == 0 && decide ((k:Int)<(l.length:Int) - 1))
def CI (c:Circle):Bool:=
  (((((((decide (c.epoch<0) || decide (1048576<c.epoch)) || decide ((c.guardians.length:Int)<1)) || decide (8<(c.guardians.length:Int))) || !ER c.guardians) || decide (c.threshold<1)) || decide ((c.guardians.length:Int)<c.threshold)) || !BI c.wait 0) || decide (1024<(c.recs.length:Int))
def AL (c:Circle):Int:=if CI c then 450 else HI (fun k=>if DE c.recs k then some 450 else none) 0 0 (c.recs.length - 0)
def DD:Circle:=⟨0,0,0,[],[]⟩
def CQ (l:List Int) (t w:Int):Circle × Int:=if AL ⟨0,t,w,l,[]⟩ != 0 then (DD,AL ⟨0,t,w,l,[]⟩) else (⟨0,t,w,l,[]⟩,0)
def FO (c:Circle):Recovery:=if 0<c.recs.length then c.recs[c.recs.length - 1]! else ⟨0,0,1,[],[]⟩
def BN (c:Circle) (day:Int):Circle × Int × Int:=
  if AL c != 0 then (DD,0,AL c) else if !BI day (FO c).asked then (DD,0,1) else if (FO c).state == 0 then (DD,0,451) else if (c.recs.length:Int) == 1024 then (DD,0,2)
  else (⟨c.epoch,c.threshold,c.wait,c.guardians,c.recs++[⟨(c.recs.length:Int),day,0,[],[]⟩]⟩,(c.recs.length:Int),0)
def AK (c:Circle) (no:Int) (f:Recovery→Except Int Recovery):Circle × Int:=
  if AL c != 0 then (DD,AL c) else if no<0∨(c.recs.length:Int)≤no then (DD,1)
  else match f c.recs[no.toNat]! with | .error e=>(DD,e) | .ok r=>(⟨c.epoch,c.threshold,c.wait,c.guardians,c.recs.set no.toNat r⟩,0)
def idxI (l:List Int) (x:Int):Int:=HI (fun k=>if x == l[k]! then some (k:Int) else none) (-1) 0 (l.length - 0)
def tw (l:List Int) (x:Int):Nat:=(l.takeWhile (fun y=>decide (y<x))).length
def KW (l:List Int) (x:Int):Bool:=decide (tw l x<l.length) && (l[tw l x]! == x)
def JE (l:List Int) (x:Int):List Int:=l.take (tw l x)++[x]++l.drop (tw l x)
def EE (l g:List Int) (k:Nat):Nat:=((g.take k).filter (fun x=>l.contains x)).length
def GM (c:Circle) (r:Recovery):Bool:=decide (c.threshold≤(EE r.approved c.guardians c.guardians.length:Int))
def AI (c:Circle) (g:Int) (r:Recovery):Except Int Recovery:=
  if r.state == 2 then .error 452 else if r.state == 1 then .error 1 else if !(c.guardians.contains g) then .error 450 else if KW r.approved g then .ok r else .ok ⟨r.no,r.asked,r.state,JE r.approved g,r.vetoed⟩
def BH (day:Int) (r:Recovery):Except Int Recovery:=
  if !BI day r.asked then .error 1 else if r.state == 2 then .ok r else if r.state == 1 then .error 1 else .ok ⟨r.no,r.asked,2,r.approved,[day]⟩
def AN (c:Circle) (day:Int) (r:Recovery):Except Int Recovery:=
  if r.state == 2 then .error 452 else if r.state == 1 then .error 1 else if !BI day 0 then .error 1 else if !GM c r then .error 450 else if decide (day<r.asked+c.wait) then .error 451 else .ok ⟨r.no,r.asked,1,r.approved,r.vetoed⟩
theorem scan_if {β:Type} {p:Nat→Bool} {d r:β} (hne:r≠d):∀ {m i:Nat},HI (fun k=>if p k then some r else none) d i m=d↔∀ k,i≤k→k<i+m→p k=false
  | 0,i=>by simp [HI];intro k h1 h2;omega
  | m+1,i=>by
    unfold HI
    cases hp:p i with
    | true=>
      simp only [if_true]
      refine ⟨fun h=>absurd h hne,fun h=>?_⟩
      have:=h i (Nat.le_refl _) (by omega)
      rw [hp] at this;cases this
    | false=>
      simp only [Bool.false_eq_true,if_false]
      rw [scan_if hne]
      refine ⟨fun h k h1 h2=>?_,fun h k h1 h2=>h k (by omega) (by omega)⟩
      by_cases hk:k=i
      · subst hk;exact hp
      · exact h k (by omega) (by omega)
theorem LN (l:List Int):ER l=true↔∀ k,k<l.length→GH l k=false:=by
  unfold ER
  rw [scan_if (by simp)]
  exact ⟨fun h k hk=>h k (by omega) (by omega),fun h k _ hk=>h k (by omega)⟩
theorem JU {l:List Int} {k:Nat}:GH l k=false↔GL l k<l[k]!∧l[k]! < 4096:=by
  simp [GH]
theorem GS {l:List Int} (h:ER l=true):∀ p q,p<q→q<l.length→l[p]! < l[q]!:=by
  intro p q hpq hq
  induction q with
  | zero=>omega
  | succ q ih=>
    have h1:=(JU.1 ((LN l).1 h (q+1) hq)).1
    simp only [GL,Nat.add_one_ne_zero,if_false,Nat.add_sub_cancel] at h1
    by_cases hp:p=q
    · subst hp;exact h1
    · have:=ih (by omega) (by omega);omega
theorem KD {l:List Int} (h:ER l=true):∀ q,q<l.length→0≤l[q]!∧l[q]! < 4096:=by
  intro q hq
  have h2:=(JU.1 ((LN l).1 h q hq))
  refine ⟨?_,h2.2⟩
  have h0:=(JU.1 ((LN l).1 h 0 (by omega))).1
  simp only [GL,if_true] at h0
  by_cases hq0:q=0
  · subst hq0;omega
  · have:=GS h 0 q (by omega) hq;omega
theorem inc_ge {l:List Int} (h:ER l=true):∀ q,q<l.length→(q:Int)≤l[q]!:=by
  intro q hq
  induction q with
  | zero=>exact (KD h 0 hq).1
  | succ q ih=>have:=ih (by omega);have:=GS h q (q+1) (by omega) hq;omega
theorem HD {l:List Int} (h:ER l=true):l.length≤4096:=by
  by_cases h0:l.length=0
  · omega
  · have h1:=inc_ge h (l.length - 1) (by omega)
    have h2:=(KD h (l.length - 1) (by omega)).2
    omega
theorem DW (c:Circle):AL c=0↔CI c=false∧∀ k,k<c.recs.length→DE c.recs k=false:=by
  unfold AL
  cases hh:CI c with
  | true=>simp
  | false=>
    simp only [Bool.false_eq_true,if_false,true_and]
    rw [scan_if (by decide)]
    exact ⟨fun h k hk=>h k (by omega) (by omega),fun h k _ hk=>h k (by omega)⟩
theorem CL {r:Recovery} (h:CP r=true):0≤r.state∧r.state≤2∧ER r.approved=true:=by
  unfold CP at h
  split at h
  · cases h
  · rename_i hh
    have hh':((decide (r.state<0) || decide (2<r.state)) || !ER r.approved)=false:=by simpa using hh
    simp only [dbs] at hh'
    exact ⟨by omega,by omega,by simpa using hh'.2⟩
theorem FV {c:Circle} (h:AL c=0) {k:Nat} (hk:k<c.recs.length):CP c.recs[k]! = true:=by
  have:=((DW c).1 h).2 k hk
  simp only [DE,dbs] at this
  exact this.1.2
theorem EJ {c:Circle} (h:AL c=0) {no:Int} (h1:0≤no) (h2:no<c.recs.length):c.recs[no.toNat]!.state=0∨c.recs[no.toNat]!.state=1∨c.recs[no.toNat]!.state=2:=by
  have:=CL (FV h (k:=no.toNat) (by omega))
  omega
theorem LA {c:Circle} (h:AL c=0) {no:Int} (h1:0≤no) (h2:no<c.recs.length):∀ p q,p<q→q<c.recs[no.toNat]!.approved.length→c.recs[no.toNat]!.approved[p]! < c.recs[no.toNat]!.approved[q]!:=
  GS (CL (FV h (k:=no.toNat) (by omega))).2.2
theorem tw_le (l:List Int) (x:Int):tw l x≤l.length:=by
  unfold tw
  exact (List.takeWhile_sublist _).length_le
theorem tw_eq {x:Int}:∀ {l:List Int} {k:Nat},k≤l.length→(∀ q,q<k→l[q]! < x)→(k<l.length→x≤l[k]!)→tw l x=k
  | [],k,hk,_,_=>by simp at hk;subst hk;rfl
  | a :: l,0,_,_,h2=>by
    have:=h2 (by simp)
    simp at this
    have hn:¬ (a<x):=by omega
    simp [tw,hn]
  | a :: l,k+1,hk,h1,h2=>by
    have h0:=h1 0 (by omega)
    simp at h0
    have ih:=tw_eq (x:=x) (l:=l) (k:=k) (by simpa using hk) (fun q hq=>by have:=h1 (q+1) (by omega);simpa using this) (fun hk2=>by have:=h2 (by simpa using hk2);simpa using this)
    unfold tw at ih ⊢
    simp [h0,ih]
theorem bsF_1 {l:List Int} {x:Int} {k:Nat} (ht:tw l x=k) (h:(l.length:Int)≤k):KW l x=false:=by
  have:¬ (k<l.length):=by omega
  simp [KW,ht,this]
theorem bsF_2 {l:List Int} {x:Int} {k:Nat} (ht:tw l x=k) (h:l[k]!≠x):KW l x=false:=by
  unfold KW;rw [ht]
  have:(l[k]! == x)=false:=by simpa using h
  rw [this,Bool.and_false]
theorem bsF_t {l:List Int} {x:Int} {k:Nat} (ht:tw l x=k) (h:(k:Int)<l.length) (he:l[k]! = x):KW l x=true:=by
  unfold KW;rw [ht]
  have:(l[k]! == x)=true:=by simpa using he
  rw [this,Bool.and_true];simpa using h
theorem bs_lo {l:List Int} {x:Int} {h:Nat} (hs:∀ p q,p<q→q<l.length→l[p]! < l[q]!) (h1:l[h]! < x) (hh:h<l.length):∀ q,q<h+1→l[q]! < x:=by
  intro q hq
  by_cases hqh:q=h
  · subst hqh;exact h1
  · have:=hs q h (by omega) hh;omega
theorem bs_hi {l:List Int} {x:Int} {h:Nat} (hs:∀ p q,p<q→q<l.length→l[p]! < l[q]!) (h1:x≤l[h]!):∀ q,h≤q→q<l.length→x≤l[q]!:=by
  intro q hq hql
  by_cases hqh:q=h
  · subst hqh;exact h1
  · have:=hs h q (by omega) hql;omega
theorem idxI_pos (l:List Int) (x:Int):decide ((0:Int)≤idxI l x)=l.contains x:=by
  have key:∀ (m i:Nat),m+i=l.length→decide ((0:Int)≤HI (fun k=>if x == l[k]! then some (k:Int) else none) (-1) i m)=(l.drop i).contains x:=by
    intro m
    induction m with
    | zero=>intro i hi;rw [List.drop_eq_nil_of_le (by omega)];rfl
    | succ m ih=>
      intro i hi
      unfold HI
      have hil:i<l.length:=by omega
      have hd:l.drop i=l[i]! :: l.drop (i+1):=by rw [getElem!_pos l i hil];exact List.drop_eq_getElem_cons hil
      rw [hd,List.contains_cons]
      cases hx:(x == l[i]!) with
      | true=>simp
      | false=>simp only [Bool.false_eq_true,if_false,Bool.false_or];exact ih (i+1) (by omega)
  have:=key l.length 0 (by omega)
  rw [List.drop_zero] at this
  exact this
theorem KX {l g:List Int} {k:Nat} (h:k<g.length):EE l g (k+1)=EE l g k+(if l.contains g[k]! then 1 else 0):=by
  unfold EE
  rw [List.take_add_one,List.getElem?_eq_getElem h,getElem!_pos g k h]
  simp only [Option.toList_some,List.filter_append,List.length_append]
  by_cases hc:g[k]∈l <;> simp [List.filter,hc]
theorem countM_le (l g:List Int) (k:Nat):EE l g k≤k:=by
  unfold EE
  exact Nat.le_trans (List.length_filter_le _ _) (List.length_take_le _ _)
theorem JV {c:Circle} (h:AL c=0):c.recs.length≤1024:=by
  have:=((DW c).1 h).1
  simp only [CI,dbs] at this
  omega
theorem IT {l:List Int} {t w:Int} (h:AL ⟨0,t,w,l,[]⟩≠0):CQ l t w=(DD,AL ⟨0,t,w,l,[]⟩):=by
  unfold CQ;rw [if_pos (by simpa using h)]
theorem JT {l:List Int} {t w:Int} (h:AL ⟨0,t,w,l,[]⟩ = 0):CQ l t w=(⟨0,t,w,l,[]⟩,0):=by
  unfold CQ;rw [if_neg (by simp [h])]
theorem JX {c:Circle} {day:Int} (h:AL c≠0):BN c day=(DD,0,AL c):=by
  unfold BN;rw [if_pos (by simpa using h)]
theorem GW {c:Circle} {day:Int} (h:AL c=0) (h1:BI day (FO c).asked=false):BN c day=(DD,0,1):=by
  unfold BN;rw [if_neg (by simp [h]),if_pos (by simp [h1])]
theorem IY {c:Circle} {day:Int} (h:AL c=0) (h1:BI day (FO c).asked=true) (h2:(FO c).state=0):BN c day=(DD,0,451):=by
  unfold BN;rw [if_neg (by simp [h]),if_neg (by simp [h1]),if_pos (by simp [h2])]
theorem FX {c:Circle} {day:Int} (h:AL c=0) (h1:BI day (FO c).asked=true) (h2:(FO c).state≠0) (h3:(c.recs.length:Int)=1024):BN c day=(DD,0,2):=by
  unfold BN;rw [if_neg (by simp [h]),if_neg (by simp [h1]),if_neg (by simpa using h2),if_pos (by simpa using h3)]
theorem EP {c:Circle} {day:Int} (h:AL c=0) (h1:BI day (FO c).asked=true) (h2:(FO c).state≠0) (h3:(c.recs.length:Int)≠1024) :
    BN c day=(⟨c.epoch,c.threshold,c.wait,c.guardians,c.recs++[⟨(c.recs.length:Int),day,0,[],[]⟩]⟩,(c.recs.length:Int),0):=by
  unfold BN;rw [if_neg (by simp [h]),if_neg (by simp [h1]),if_neg (by simpa using h2),if_neg (by simpa using h3)]
theorem MK {c:Circle} {no:Int} {f:Recovery→Except Int Recovery} (h:AL c≠0):AK c no f=(DD,AL c):=by
  unfold AK;rw [if_pos (by simpa using h)]
theorem gAct_no {c:Circle} {no:Int} {f:Recovery→Except Int Recovery} (h:AL c=0) (hn:no<0∨(c.recs.length:Int)≤no):AK c no f=(DD,1):=by
  unfold AK;rw [if_neg (by simp [h]),if_pos hn]
theorem EU {c:Circle} {no:Int} {f:Recovery→Except Int Recovery} {e:Int} (h:AL c=0) (h1:0≤no) (h2:no<c.recs.length) (hf:f c.recs[no.toNat]! = .error e):AK c no f=(DD,e):=by
  unfold AK;rw [if_neg (by simp [h]),if_neg (by omega),hf]
theorem JP {c:Circle} {no:Int} {f:Recovery→Except Int Recovery} {r:Recovery} (h:AL c=0) (h1:0≤no) (h2:no<c.recs.length) (hf:f c.recs[no.toNat]! = .ok r):AK c no f=(⟨c.epoch,c.threshold,c.wait,c.guardians,c.recs.set no.toNat r⟩,0):=by
  unfold AK;rw [if_neg (by simp [h]),if_neg (by omega),hf]
theorem veto_bad {c:Circle} {no:Int} {day:Int} (h:AL c≠0):AK c no (BH day)=(DD,AL c):=MK h
theorem LL {c:Circle} {no:Int} {day:Int} (h:AL c=0) (hn:no<0∨(c.recs.length:Int)≤no):AK c no (BH day)=(DD,1):=gAct_no h hn
theorem fin_bad {c:Circle} {no:Int} {day:Int} (h:AL c≠0):AK c no (AN c day)=(DD,AL c):=MK h
theorem fin_no {c:Circle} {no:Int} {day:Int} (h:AL c=0) (hn:no<0∨(c.recs.length:Int)≤no):AK c no (AN c day)=(DD,1):=gAct_no h hn
theorem app_bad {c:Circle} {no:Int} {g:Int} (h:AL c≠0):AK c no (AI c g)=(DD,AL c):=MK h
theorem app_no {c:Circle} {no:Int} {g:Int} (h:AL c=0) (hn:no<0∨(c.recs.length:Int)≤no):AK c no (AI c g)=(DD,1):=gAct_no h hn
theorem veto_day {c:Circle} {no day:Int} (hok:AL c=0) (h1:0≤no) (h2:no<c.recs.length) (hd:BI day c.recs[no.toNat]!.asked=false):AK c no (BH day)=(DD,1):=
  EU hok h1 h2 (by revert hd;generalize c.recs[no.toNat]! = r;intro hd;simp [BH,hd])
theorem MZ {c:Circle} {no day:Int} (hok:AL c=0) (h1:0≤no) (h2:no<c.recs.length) (hd:BI day c.recs[no.toNat]!.asked=true) (hs:c.recs[no.toNat]!.state=2):AK c no (BH day)=(⟨c.epoch,c.threshold,c.wait,c.guardians,c.recs.set no.toNat c.recs[no.toNat]!⟩,0):=
  JP hok h1 h2 (by revert hd hs;generalize c.recs[no.toNat]! = r;intro hd hs;simp [BH,hd,hs])
theorem MW {c:Circle} {no day:Int} (hok:AL c=0) (h1:0≤no) (h2:no<c.recs.length) (hd:BI day c.recs[no.toNat]!.asked=true) (hs:c.recs[no.toNat]!.state=1):AK c no (BH day)=(DD,1):=
  EU hok h1 h2 (by revert hd hs;generalize c.recs[no.toNat]! = r;intro hd hs;simp [BH,hd,hs])
theorem MV {c:Circle} {no day:Int} (hok:AL c=0) (h1:0≤no) (h2:no<c.recs.length) (hd:BI day c.recs[no.toNat]!.asked=true) (hs:c.recs[no.toNat]!.state=0):AK c no (BH day)=(⟨c.epoch,c.threshold,c.wait,c.guardians,c.recs.set no.toNat ⟨c.recs[no.toNat]!.no,c.recs[no.toNat]!.asked,2,c.recs[no.toNat]!.approved,[day]⟩⟩,0):=
  JP hok h1 h2 (by revert hd hs;generalize c.recs[no.toNat]! = r;intro hd hs;simp [BH,hd,hs])
theorem fin_dead {c:Circle} {no day:Int} (hok:AL c=0) (h1:0≤no) (h2:no<c.recs.length) (hs:c.recs[no.toNat]!.state=2):AK c no (AN c day)=(DD,452):=
  EU hok h1 h2 (by revert hs;generalize c.recs[no.toNat]! = r;intro hs;simp [AN,hs])
theorem fin_done {c:Circle} {no day:Int} (hok:AL c=0) (h1:0≤no) (h2:no<c.recs.length) (hs:c.recs[no.toNat]!.state=1):AK c no (AN c day)=(DD,1):=
  EU hok h1 h2 (by revert hs;generalize c.recs[no.toNat]! = r;intro hs;simp [AN,hs])
theorem fin_day {c:Circle} {no day:Int} (hok:AL c=0) (h1:0≤no) (h2:no<c.recs.length) (hs:c.recs[no.toNat]!.state=0) (hd:BI day 0=false):AK c no (AN c day)=(DD,1):=
  EU hok h1 h2 (by revert hs hd;generalize c.recs[no.toNat]! = r;intro hs hd;simp [AN,hs,hd])
theorem fin_few {c:Circle} {no day:Int} (hok:AL c=0) (h1:0≤no) (h2:no<c.recs.length) (hs:c.recs[no.toNat]!.state=0) (hd:BI day 0=true) (ha:GM c c.recs[no.toNat]! = false):AK c no (AN c day)=(DD,450):=
  EU hok h1 h2 (by revert hs hd ha;generalize c.recs[no.toNat]! = r;intro hs hd ha;simp [AN,hs,hd,ha])
theorem fin_wait {c:Circle} {no day:Int} (hok:AL c=0) (h1:0≤no) (h2:no<c.recs.length) (hs:c.recs[no.toNat]!.state=0) (hd:BI day 0=true) (ha:GM c c.recs[no.toNat]! = true) (hw:day<c.recs[no.toNat]!.asked+c.wait):AK c no (AN c day)=(DD,451):=
  EU hok h1 h2 (by revert hs hd ha hw;generalize c.recs[no.toNat]! = r;intro hs hd ha hw;simp [AN,hs,hd,ha];omega)
theorem fin_open {c:Circle} {no day:Int} (hok:AL c=0) (h1:0≤no) (h2:no<c.recs.length) (hs:c.recs[no.toNat]!.state=0) (hd:BI day 0=true) (ha:GM c c.recs[no.toNat]! = true) (hw:c.recs[no.toNat]!.asked+c.wait≤day):AK c no (AN c day)=(⟨c.epoch,c.threshold,c.wait,c.guardians,c.recs.set no.toNat ⟨c.recs[no.toNat]!.no,c.recs[no.toNat]!.asked,1,c.recs[no.toNat]!.approved,c.recs[no.toNat]!.vetoed⟩⟩,0):=
  JP hok h1 h2 (by revert hs hd ha hw;generalize c.recs[no.toNat]! = r;intro hs hd ha hw;simp [AN,hs,hd,ha];omega)
theorem app_dead {c:Circle} {no g:Int} (hok:AL c=0) (h1:0≤no) (h2:no<c.recs.length) (hs:c.recs[no.toNat]!.state=2):AK c no (AI c g)=(DD,452):=
  EU hok h1 h2 (by revert hs;generalize c.recs[no.toNat]! = r;intro hs;simp [AI,hs])
theorem app_done {c:Circle} {no g:Int} (hok:AL c=0) (h1:0≤no) (h2:no<c.recs.length) (hs:c.recs[no.toNat]!.state=1):AK c no (AI c g)=(DD,1):=
  EU hok h1 h2 (by revert hs;generalize c.recs[no.toNat]! = r;intro hs;simp [AI,hs])
theorem app_not {c:Circle} {no g:Int} (hok:AL c=0) (h1:0≤no) (h2:no<c.recs.length) (hs:c.recs[no.toNat]!.state=0) (hg:c.guardians.contains g=false):AK c no (AI c g)=(DD,450):=
  EU hok h1 h2 (by revert hs hg;generalize c.recs[no.toNat]! = r;intro hs hg;simp only [AI,hs,hg];simp [hs,hg])
theorem app_had {c:Circle} {no g:Int} (hok:AL c=0) (h1:0≤no) (h2:no<c.recs.length) (hs:c.recs[no.toNat]!.state=0) (hg:c.guardians.contains g=true) (hb:KW c.recs[no.toNat]!.approved g=true):AK c no (AI c g)=(⟨c.epoch,c.threshold,c.wait,c.guardians,c.recs.set no.toNat c.recs[no.toNat]!⟩,0):=
  JP hok h1 h2 (by revert hs hg hb;generalize c.recs[no.toNat]! = r;intro hs hg hb;simp only [AI,hs,hg,hb];simp [hs,hg,hb])
theorem LO {c:Circle} {no g:Int} (hok:AL c=0) (h1:0≤no) (h2:no<c.recs.length) (hs:c.recs[no.toNat]!.state=0) (hg:c.guardians.contains g=true) (hb:KW c.recs[no.toNat]!.approved g=false):AK c no (AI c g)=(⟨c.epoch,c.threshold,c.wait,c.guardians,c.recs.set no.toNat ⟨c.recs[no.toNat]!.no,c.recs[no.toNat]!.asked,c.recs[no.toNat]!.state,JE c.recs[no.toNat]!.approved g,c.recs[no.toNat]!.vetoed⟩⟩,0):=
  JP hok h1 h2 (by revert hs hg hb;generalize c.recs[no.toNat]! = r;intro hs hg hb;simp only [AI,hs,hg,hb];simp [hs,hg,hb])
theorem FM {l:List Recovery} {k:Nat}:DE l k=false↔l[k]!.no=(k:Int)∧BI l[k]!.asked (CZ l k)=true∧CP l[k]! = true∧(l[k]!.state≠0∨(l.length:Int) - 1≤(k:Int)):=by
  simp only [DE,dbs]
  constructor
  · rintro ⟨⟨⟨h1,h2⟩,h3⟩,h4⟩;exact ⟨by omega,by simpa using h2,by simpa using h3,by omega⟩
  · rintro ⟨h1,h2,h3,h4⟩;exact ⟨⟨⟨by omega,by simpa using h2⟩,by simpa using h3⟩,by omega⟩
theorem FT {d f:Int}:BI d f=true↔f≤d∧d<1024:=by simp [BI]
theorem asked_ge {l:List Recovery} {n:Nat} (h:∀ k,k<n→DE l k=false):∀ k,k<n→0≤l[k]!.asked:=by
  intro k hk
  induction k with
  | zero=>
    have:=(FT.1 (FM.1 (h 0 hk)).2.1).1
    simpa [CZ] using this
  | succ k ih=>
    have h1:=(FT.1 (FM.1 (h (k+1) hk)).2.1).1
    simp only [CZ,Nat.add_one_ne_zero,if_false,Nat.add_sub_cancel] at h1
    have:=ih (by omega)
    omega
theorem JH {c:Circle} (h:AL c=0) {no:Int} (h1:0≤no) (h2:no<c.recs.length):0≤c.recs[no.toNat]!.asked∧c.recs[no.toNat]!.asked<1024∧0≤c.wait∧c.wait<1024:=by
  have hh:=(DW c).1 h
  have ha:=asked_ge hh.2 no.toNat (by omega)
  have hd:=(FT.1 (FM.1 (hh.2 no.toNat (by omega))).2.1).2
  have hw:=hh.1
  simp only [CI,dbs] at hw
  have:=FT.1 (show BI c.wait 0=true by simpa using hw.1.2)
  omega
theorem all_step {p:Nat→Prop} {k:Nat} (h:∀ q,q<k→p q) (hk:p k):∀ q,q<k+1→p q:=fun q hq=>by
  by_cases e:q=k
  · subst e;exact hk
  · exact h q (by omega)
section
variable {l:List Int} {k:Nat}
end
open Go.Fw Go.RowKit
set_option maxHeartbeats 4000000 in
set_option maxRecDepth 100000 in
theorem c_isNaN {O:List Nat} (x:Int) (w:World) (hO:∀ b∈O,b<w.heap.size):DA Try.prog 67 [vI x] w (fun v _=>v = .bool (false)):= by
 have s0:St w O w []:=St.start hO
 refine CA 6 Try.func67 rfl rfl oT (fun F0=>AF (AB kR (AA (AG (vO false) rfl (AE (AC (AF (AB kR (AA (AD (vI x) rfl (AA (AD (vI x) rfl (AA (DS .i64 x x rfl rfl (AA (AG (vO (x != x)) rfl (AE (AC (AT (BF rfl (CU rfl rfl rfl) (?_)))))))))))))))))))))
 have e:false=(x != x):=by simp
 exact ⟨_,rfl,s0.keep,(by exact congrArg vO e.symm)⟩
set_option maxHeartbeats 4000000 in
set_option maxRecDepth 100000 in
theorem c_isNaN2 {O:List Nat} (x:Int) (w:World) (hO:∀ b∈O,b<w.heap.size):DA Try.prog 64 [vI x] w (fun v _=>v = .bool (false)):= by
 have s0:St w O w []:=St.start hO
 refine CA 6 Try.func64 rfl rfl oT (fun F0=>AF (AB kR (AA (AG (vO false) rfl (AE (AC (AF (AB kR (AA (AD (vI x) rfl (AA (AD (vI x) rfl (AA (DS .i64 x x rfl rfl (AA (AG (vO (x != x)) rfl (AE (AC (AT (BF rfl (CU rfl rfl rfl) (?_)))))))))))))))))))))
 have e:false=(x != x):=by simp
 exact ⟨_,rfl,s0.keep,(by exact congrArg vO e.symm)⟩
set_option maxHeartbeats 4000000 in
set_option maxRecDepth 100000 in
theorem c_less {O:List Nat} (x:Int) (y:Int) (w:World) (hO:∀ b∈O,b<w.heap.size):DA Try.prog 63 [vI x,vI y] w (fun v _=>v = .bool (decide (x<y))):= by
 have s0:St w O w []:=St.start hO
 refine CA 17 Try.func63 rfl rfl oT (fun F0=>AF (AB kR (AA (AG (vO false) rfl (AE (AC (AF (AB kR (AA (AD (vI x) rfl (AA (BJ (vs:=[vI x]) enter_67 (c_isNaN (O:=[]++O) x w s0.lt) rfl s0 fun a2 a3 a0 a4 a5 a1=>(?_)))))))))))))
 obtain rfl:=a1
 refine AA (AD (vO false) rfl (AU rfl (AU rfl (AU rfl (AA (BM (vO false) rfl rfl (AA (AD (vO false) rfl (AQ rfl (AD (vI x) rfl (AQ rfl (AD (vI y) rfl (AQ rfl (DU .i64 x y rfl rfl (AA (BM (vO (decide (x<y))) rfl rfl (AA (AG (vO (decide (x<y))) rfl (AE (AC (AT (BF rfl (CU rfl rfl rfl) (?_)))))))))))))))))))))))
 exact ⟨_,rfl,a0.keep,rfl⟩
set_option maxHeartbeats 4000000 in
set_option maxRecDepth 100000 in
theorem c_bs {O:List Nat} (l_v:Value) (l:List Int) (x:Int) (w:World) (a0:BV Enc.int w O l_v l) (hpre0:∀ p q,p<q→q<l.length→l[p]! < l[q]!) (hpre1:l.length≤4611686018427387903) (hO:∀ b∈O,b<w.heap.size):DA Try.prog 61 [l_v,vI x] w (fun v _=>v = .tuple #[vI ((tw l x:Nat):Int), .bool (KW l x)]):= by
 have c2:=a0.len_le
 have a0:BV Enc.int w ([]++O) l_v l:=a0
 have s0:St w O w []:=St.start hO
 refine CA 54 Try.func61 rfl rfl oT (fun F0=>AF (AB kR (AA (AG (vI 0) rfl (AA (AG (vO false) rfl (AE (AC (AF (AB kR (AA (AD (l_v) rfl (AA (CO U22_ rfl a0 (AA (AG (vI (l.length:Int)) rfl (AE (AC (AF (AB kR (AA (AD (vI (l.length:Int)) rfl (AA (AG (vI 0) rfl (AA (AG (vI (l.length:Int)) rfl (AE (AC (AF (BX (FH (fun mI FI wI=>∃ (lo:Nat) (hi:Nat) (B:List Nat),lo≤hi∧hi≤l.length∧(∀ q,q<lo→l[q]! < x)∧(∀ q,hi≤q→q<l.length→x≤l[q]!)∧mI=hi - lo∧(∃ F1,FI=II F1 [(0,l_v),(1,vI x),(6,vI (l.length:Int)),(7,vI ((lo:Nat):Int)),(8,vI ((hi:Nat):Int)),(54,undef)])∧St w O wI B∧BV Enc.int wI (B++O) (l_v) (l)) ((l.length) - (0)) ?_ ?_)))))))))))))))))))))))))))))))
 ·exact ⟨(0),(l.length),[],oM,oM,(fun q hq=>by omega),(fun q h1 h2=>by omega),rfl,⟨_,BL _ ⟨rfl,rfl,rfl,(by rfl),(by rfl),rfl,trivial⟩⟩,s0,a0⟩
 intro d5 F a7 hI
 clear a0
 obtain ⟨lo,hi,a4,hr0_0,hr0_1,hr0_2,hr0_3,d6,⟨d7,rfl⟩,a1,a0⟩:=hI
 refine AF (AF (AB kR (AA (AD (vI ((lo:Nat):Int)) rfl (AA (AD (vI ((hi:Nat):Int)) rfl (AA (DU .i64 ((lo:Nat):Int) ((hi:Nat):Int) rfl rfl (AE (AC (AP (decide (((lo:Nat):Int)<((hi:Nat):Int))) rfl rfl (fun a2=>?_) (fun a2=>?_))))))))))))
 ·have c4:((lo:Nat):Int)<((hi:Nat):Int):=by simpa using a2
  refine AZ (AC (BX (AF (AB kR (AA (AD (vI ((lo:Nat):Int)) rfl (AA (AD (vI ((hi:Nat):Int)) rfl (AA (DQ .i64 ((lo:Nat):Int) ((hi:Nat):Int) (((lo+hi:Nat):Int)) rfl rfl (HR oM oM) (AA (KE .i64 .u64 U3_ U85_ ((lo+hi:Nat):Int) (((lo+hi):Nat):Int) rfl (wrap_u64 oM) (AA (o_shrU .u64 (lo+hi) 1 oM rfl rfl (AA (KE .u64 .i64 U85_ U3_ (((lo+hi) / 2 ^ 1:Nat):Int) ((((lo+hi) / 2 ^ 1):Nat):Int) rfl (HR oM rfl) (AA (AG (vI (((lo+hi) / 2 ^ 1:Nat):Int)) rfl (AE (AC (AF (AB kR (AA (AD (l_v) rfl (AA (AD (vI (((lo+hi) / 2 ^ 1:Nat):Int)) rfl (AA (DV U22_ IA .i64 (((lo+hi) / 2 ^ 1:Nat):Int) ((lo+hi) / 2 ^ 1) rfl rfl rfl a0 oM fun d8 a9=>(AA (BW U3_ rfl rfl a9 (AA (AD (vI x) rfl (AA (BJ (vs:=[vI (l[(lo+hi) / 2 ^ 1]!),vI x]) enter_63 (c_less (O:=a4++O) (l[(lo+hi) / 2 ^ 1]!) x a7 a1.lt) rfl a1 fun d9 e0 a8 b8 e1 b9=>(?_)))))))))))))))))))))))))))))))))))
  obtain rfl:=b9
  have a0:=a0.mv b8
  refine AE (AC (AP (decide (l[(lo+hi) / 2 ^ 1]! < x)) rfl rfl (fun a3=>?_) (fun a3=>?_)))
  ·have c5:l[(lo+hi) / 2 ^ 1]! < x:=by simpa using a3
   refine AB kR (AA (AD (vI (((lo+hi) / 2 ^ 1:Nat):Int)) rfl (AA (DQ .i64 (((lo+hi) / 2 ^ 1:Nat):Int) (1:Int) ((((lo+hi) / 2 ^ 1+1:Nat):Int)) rfl rfl (HR oM oM) (AA (AG (vI (((lo+hi) / 2 ^ 1+1:Nat):Int)) rfl (AE (BU (AC (?_))))))))))
   exact ⟨_,oM,((lo+hi) / 2 ^ 1+1),(hi),a4,oM,oM,(by exact bs_lo hpre0 aS oM),(by exact hr0_3),rfl,⟨_,BL _ ⟨rfl,rfl,rfl,(by rfl),(by rfl),rfl,trivial⟩⟩,a8,a0⟩
  have c6:x≤l[(lo+hi) / 2 ^ 1]!:=by simpa using a3
  refine AB kR (AA (AD (vI (((lo+hi) / 2 ^ 1:Nat):Int)) rfl (AA (AG (vI (((lo+hi) / 2 ^ 1:Nat):Int)) rfl (AE (BU (AC (?_))))))))
  exact ⟨_,oM,(lo),((lo+hi) / 2 ^ 1),a4,oM,oM,(by exact hr0_2),(by exact bs_hi hpre0 aS),rfl,⟨_,BL _ ⟨rfl,rfl,rfl,(by rfl),(by rfl),rfl,trivial⟩⟩,a8,a0⟩
 have c7:((hi:Nat):Int)≤((lo:Nat):Int):=by simpa using a2
 obtain rfl:lo=hi:=by omega
 have htw:tw l x=lo:=tw_eq oM hr0_2 (fun h=>hr0_3 lo oM h)
 refine EX (CV (CV (EB (AC (AF (AB kR (AA (AD (vI ((lo:Nat):Int)) rfl (AA (AD (vI ((lo:Nat):Int)) rfl (AA (AD (vI (l.length:Int)) rfl (AA (DU .i64 ((lo:Nat):Int) (l.length:Int) rfl rfl (AA (AD (vO (decide (((lo:Nat):Int)<(l.length:Int)))) rfl (?_)))))))))))))))))
 cases a5:(decide (((lo:Nat):Int)<(l.length:Int)))
 ·have c8:(l.length:Int)≤((lo:Nat):Int):=by simpa using a5
  refine AU rfl (AU rfl (AU rfl (AU rfl (AU rfl (AU rfl (AU rfl (DB rfl (DB rfl (DB rfl (DB rfl (DB rfl (DB rfl (DB rfl (DB rfl (DB rfl (AU rfl (AA (BM (vO false) rfl rfl (AA (AG (vI ((lo:Nat):Int)) rfl (AA (AG (vO false) rfl (AE (AC (AT (BF rfl (res2 rfl rfl rfl rfl) (?_)))))))))))))))))))))))))))
  have c0:(tw l x)=lo:=by exact htw
  have c1:(KW l x)=false:=by exact bsF_1 htw oM
  exact ⟨_,rfl,a1.keep,by rw [c0,c1];exact rfl⟩
 have c9:((lo:Nat):Int)<(l.length:Int):=by simpa using a5
 refine AQ rfl (AD (l_v) rfl (AQ rfl (AD (vI ((lo:Nat):Int)) rfl (AQ rfl (DV U22_ IA .i64 ((lo:Nat):Int) lo rfl rfl rfl a0 oM fun e2 b0=>(AQ rfl (BW U3_ rfl rfl b0 (AQ rfl (AD (vI x) rfl (AQ rfl (CS .i64 (l[lo]!) x rfl rfl (AQ rfl (AD (vO ((l[lo]!) == x)) rfl (?_))))))))))))))
 cases a6:((l[lo]!) == x)
 ·have d0:l[lo]!≠x:=by simpa using a6
  refine AQ rfl (AD (l_v) rfl (AQ rfl (AD (vI ((lo:Nat):Int)) rfl (AQ rfl (DV U22_ IA .i64 ((lo:Nat):Int) lo rfl rfl rfl a0 oM fun e3 b1=>(AQ rfl (BW U3_ rfl rfl b1 (AQ rfl (BJ (vs:=[vI (l[lo]!)]) enter_64 (c_isNaN2 (O:=a4++O) (l[lo]!) a7 a1.lt) rfl a1 fun d1 d2 b2 d3 d4 b3=>(?_))))))))))
  obtain rfl:=b3
  refine AQ rfl (AD (vO false) rfl (AU rfl (AU rfl (AQ rfl (BM (vO false) rfl rfl (AQ rfl (BM (vO false) rfl rfl (AA (AY (vO false) rfl rfl (AA (AG (vI ((lo:Nat):Int)) rfl (AA (AG (vO false) rfl (AE (AC (AT (BF rfl (res2 rfl rfl rfl rfl) (?_))))))))))))))))))
  have b4:(tw l x)=lo:=by exact htw
  have b5:(KW l x)=false:=by exact bsF_2 htw aS
  exact ⟨_,rfl,b2.keep,by rw [b4,b5];exact rfl⟩
 have c3:l[lo]! = x:=by simpa using a6
 refine AU rfl (AU rfl (AU rfl (AU rfl (AU rfl (AU rfl (DB rfl (DB rfl (AU rfl (AQ rfl (AY (vO true) rfl rfl (AA (AY (vO true) rfl rfl (AA (AG (vI ((lo:Nat):Int)) rfl (AA (AG (vO true) rfl (AE (AC (AT (BF rfl (res2 rfl rfl rfl rfl) (?_)))))))))))))))))))))
 have b6:(tw l x)=lo:=by exact htw
 have b7:(KW l x)=true:=by exact bsF_t htw oM aS
 exact ⟨_,rfl,a1.keep,by rw [b6,b7];exact rfl⟩
set_option maxHeartbeats 4000000 in
set_option maxRecDepth 100000 in
theorem c_idx {O:List Nat} (l_v:Value) (l:List Int) (x:Int) (w:World) (a2:BV Enc.int w O l_v l) (hO:∀ b∈O,b<w.heap.size):DA Try.prog 60 [l_v,vI x] w (fun v _=>v=vI (idxI l x)):= by
 have a4:=a2.len_le
 have a2:BV Enc.int w ([]++O) l_v l:=a2
 have s0:St w O w []:=St.start hO
 refine CA 19 Try.func60 rfl rfl oT (fun F0=>AF (AB kR (AA (AG (vI 0) rfl (AE (AC (AF (AF (AB kR (AA (AD (l_v) rfl (AA (CO U22_ rfl a2 (AA (AD (vI 0) rfl (AE (AC (BX (FH (fun mI FI wI=>∃ (k:Nat),k≤l.length∧idxI l x=HI (fun k=>if x == l[k]! then some (k:Int) else none) (-1) k (l.length - k)∧mI=l.length - k∧(∃ F1,FI=II F1 [(0,l_v),(1,vI x),(7,vI (l.length:Int)),(8,vI ((k:Nat):Int)),(19,undef)])∧w=wI) (l.length - (0)) ?_ ?_)))))))))))))))))))
 ·exact ⟨(0),oM,rfl,rfl,⟨_,BL _ ⟨rfl,rfl,rfl,(by rfl),rfl,trivial⟩⟩,rfl⟩
 rintro b0 F b1 ⟨k,hr0_0,hr0_1,b2,⟨b3,rfl⟩,rfl⟩
 refine AF (AB kR (AA (DU .i64 ((k:Nat):Int) (l.length:Int) rfl rfl (AE (AC (AF (AP (decide (((k:Nat):Int)<(l.length:Int))) rfl rfl (fun a0=>?_) (fun a0=>?_))))))))
 ·have a5:((k:Nat):Int)<(l.length:Int):=by simpa using a0
  refine AZ (AC (AF (BX (AF (AB kR (AA (AD (vI ((k:Nat):Int)) rfl (AA (AG (vI ((k:Nat):Int)) rfl (AE (AC (AF (AB kR (AA (AD (vI x) rfl (AA (AD (l_v) rfl (AA (AD (vI ((k:Nat):Int)) rfl (AA (DV U22_ IA .i64 ((k:Nat):Int) k rfl rfl rfl a2 oM fun a9 a3=>(AA (BW U3_ rfl rfl a3 (AA (CS .i64 x (l[k]!) rfl rfl (AE (AC (AP (x == (l[k]!)) rfl rfl (fun a1=>?_) (fun a1=>?_)))))))))))))))))))))))))))))
  ·have a6:x=l[k]!:=by simpa using a1
   refine AF (AB kR (AA (AD (vI ((k:Nat):Int)) rfl (AA (AG (vI ((k:Nat):Int)) rfl (AE (AC (AT (CK (BA (BA (CK (BA (BF rfl (CU rfl rfl rfl) (?_)))))))))))))))
   have e:(idxI l x)=((k:Nat):Int):=by (rw [hr0_1];exact FD oM (by ((repeat ((refine (if_pos ?_).trans ?_;omega)));rfl)))
   exact ⟨_,rfl,s0.keep,by rw [e];exact rfl⟩
  have a7:x≠l[k]!:=by simpa using a1
  refine AZ (BU (AC (AB kR (AA (DQ .i64 ((k:Nat):Int) (1:Int) (((k+1:Nat):Int)) rfl rfl (HR oM oM) (AA (AD (vI ((k+1:Nat):Int)) rfl (AE (AC (?_))))))))))
  exact ⟨_,oM,(k+1),oM,(hr0_1.trans (HP oM (by ((repeat ((refine (if_neg ?_).trans ?_;solve|(simp only [dbs];(repeat (omega))))));rfl)))),rfl,⟨_,BL _ ⟨rfl,rfl,rfl,(by rfl),rfl,trivial⟩⟩,rfl⟩
 have a8:(l.length:Int)≤((k:Nat):Int):=by simpa using a0
 refine EX (CV (CV (EB (AC (AF (AB kR (AA (AG (vI (-1:Int)) rfl (AE (AC (AT (BF rfl (CU rfl rfl rfl) (?_)))))))))))))
 have e:(idxI l x)=(-1:Int):=by (rw [hr0_1];exact JQ oM)
 exact ⟨_,rfl,s0.keep,by rw [e];exact rfl⟩
set_option maxHeartbeats 4000000 in
set_option maxRecDepth 100000 in
theorem MP {O:List Nat} (l_v:Value) (l:List Int) (x:Int) (w:World) (a0:BV Enc.int w O l_v l) (hO:∀ b∈O,b<w.heap.size):DA Try.prog 44 [l_v,vI x] w (fun v _=>v = .bool (l.contains x)):= by
 have a3:=a0.len_le
 have a0:BV Enc.int w ([]++O) l_v l:=a0
 have s0:St w O w []:=St.start hO
 refine CA 9 Try.func44 rfl rfl oT (fun F0=>AF (AB kR (AA (AG (vO false) rfl (AE (AC (AF (AB kR (AA (AD (l_v) rfl (AA (AD (vI x) rfl (AA (BJ (vs:=[l_v,vI x]) enter_60 (c_idx (O:=[]++O) l_v l x w a0 s0.lt) rfl s0 fun a4 a5 a1 a6 a7 a2=>(?_)))))))))))))))
 obtain rfl:=a2
 refine AA (IE .i64 (idxI l x) (0:Int) rfl rfl (AA (AG (vO (decide ((0:Int)≤idxI l x))) rfl (AE (AC (AT (BF rfl (CU rfl rfl rfl) (?_))))))))
 have e:(l.contains x)=(decide ((0:Int)≤idxI l x)):=by exact (idxI_pos _ _).symm
 exact ⟨_,rfl,a1.keep,(by exact congrArg vO e.symm)⟩
set_option maxHeartbeats 4000000 in
set_option maxRecDepth 100000 in
theorem IB {O:List Nat} (day:Int) (frm:Int) (w:World) (hO:∀ b∈O,b<w.heap.size):DA Try.prog 30 [vI day,vI frm] w (fun v _=>v = .bool (BI day frm)):= by
 have s0:St w O w []:=St.start hO
 refine CA 12 Try.func30 rfl rfl oT (fun F0=>AF (AB kR (AA (AG (vO false) rfl (AE (AC (AF (AB kR (AA (AD (vI day) rfl (AA (AD (vI frm) rfl (AA (IE .i64 day frm rfl rfl (AA (AD (vO (decide (frm≤day))) rfl (?_)))))))))))))))))
 cases a0:(decide (frm≤day))
 ·have a1:day<frm:=by simpa using a0
  refine AU rfl (AU rfl (AA (BM (vO false) rfl rfl (AA (AG (vO false) rfl (AE (AC (AT (BF rfl (CU rfl rfl rfl) (?_))))))))))
  have e:(BI day frm)=false:=by simp [BI, *]
  exact ⟨_,rfl,s0.keep,(by exact congrArg vO e.symm)⟩
 have a2:frm≤day:=by simpa using a0
 refine AQ rfl (AD (vI day) rfl (AQ rfl (DU .i64 day (1024:Int) rfl rfl (AA (AY (vO (decide (day<(1024:Int)))) rfl rfl (AA (AG (vO (decide (day<(1024:Int)))) rfl (AE (AC (AT (BF rfl (CU rfl rfl rfl) (?_))))))))))))
 have e:(BI day frm)=(decide (day<(1024:Int))):=by simp [BI, *]
 exact ⟨_,rfl,s0.keep,(by exact congrArg vO e.symm)⟩
set_option maxHeartbeats 4000000 in
set_option maxRecDepth 100000 in
theorem c_incr {O:List Nat} (l_v:Value) (l:List Int) (w:World) (a2:BV Enc.int w O l_v l) (hO:∀ b∈O,b<w.heap.size):DA Try.prog 33 [l_v] w (fun v _=>v = .bool (ER l)):= by
 have a5:=a2.len_le
 have a2:BV Enc.int w ([]++O) l_v l:=a2
 have s0:St w O w []:=St.start hO
 refine CA 21 Try.func33 rfl rfl oT (fun F0=>AF (AB kR (AA (AG (vO false) rfl (AE (AC (AF (AB kR (AA (AG (vI (-1:Int)) rfl (AE (AC (AF (AF (AB kR (AA (AD (l_v) rfl (AA (CO U22_ rfl a2 (AA (AD (vI 0) rfl (AE (AC (BX (FH (fun mI FI wI=>∃ (k:Nat),k≤l.length∧ER l=HI (fun k=>if GH l k then some false else none) true k (l.length - k)∧mI=l.length - k∧(∃ F1,FI=II F1 [(3,vI (GL l k)),(6,l_v),(7,vI (l.length:Int)),(8,vI ((k:Nat):Int)),(21,undef)])∧w=wI) (l.length - (0)) ?_ ?_)))))))))))))))))))))))))
 ·exact ⟨(0),oM,(by unfold ER;((repeat (first|(refine (if_pos ?_).trans ?_;solve|omega|assumption|(simp only [GH,dbs];first|done|(repeat (first|omega|assumption|(right;first|omega|assumption|(constructor <;> first|omega|assumption))|left)))|(rw [Bool.not_eq_true];simp only [GH,dbs];first|done|omega|assumption|((repeat' apply And.intro) <;> first|omega|assumption))|(simp only [*,dbs];done))|(refine (if_neg ?_).trans ?_;solve|omega|assumption|(simp only [GH,dbs];first|done|(repeat (first|omega|assumption|(right;first|omega|assumption|(constructor <;> first|omega|assumption))|left)))|(rw [Bool.not_eq_true];simp only [GH,dbs];first|done|omega|assumption|((repeat' apply And.intro) <;> first|omega|assumption))|(simp only [*,dbs];done))));rfl)),rfl,⟨_,BL _ ⟨(by rfl),rfl,rfl,(by rfl),rfl,trivial⟩⟩,rfl⟩
 rintro b3 F b4 ⟨k,hr0_0,hr0_1,b5,⟨b6,rfl⟩,rfl⟩
 refine AF (AB kR (AA (DU .i64 ((k:Nat):Int) (l.length:Int) rfl rfl (AE (AC (AF (AP (decide (((k:Nat):Int)<(l.length:Int))) rfl rfl (fun a0=>?_) (fun a0=>?_))))))))
 ·have a6:((k:Nat):Int)<(l.length:Int):=by simpa using a0
  refine AZ (AC (AF (BX (AF (AB kR (AA (DV U22_ IA .i64 ((k:Nat):Int) k rfl rfl rfl a2 oM fun b2 a4=>(AA (BW U3_ rfl rfl a4 (AA (AG (vI (l[k]!)) rfl (AE (AC (AF (AF (AB kR (AA (AD (vI (l[k]!)) rfl (AA (AD (vI (GL l k)) rfl (AA (o_leq .i64 (l[k]!) (GL l k) rfl rfl (AA (AD (vO (decide (l[k]!≤GL l k))) rfl (?_)))))))))))))))))))))))))
  cases a3:(decide (l[k]!≤GL l k))
  ·have a7:GL l k<l[k]!:=by simpa using a3
   refine AQ rfl (AD (vI (l[k]!)) rfl (AQ rfl (IE .i64 (l[k]!) (4096:Int) rfl rfl (AA (BM (vO (decide ((4096:Int)≤l[k]!))) rfl rfl (AE (AC (AP (decide ((4096:Int)≤l[k]!)) rfl rfl (fun a1=>?_) (fun a1=>?_)))))))))
   ·have a8:(4096:Int)≤l[k]!:=by simpa using a1
    refine AF (AB kR (AA (AG (vO false) rfl (AE (AC (AT (BA (CK (BA (BA (CK (BA (BF rfl (CU rfl rfl rfl) (?_))))))))))))))
    have e:(ER l)=false:=by (rw [hr0_1];exact FD oM (by ((repeat ((refine (if_pos ?_).trans ?_;solve|(simp only [GH,dbs];(repeat (omega))))));rfl)))
    exact ⟨_,rfl,s0.keep,(by exact congrArg vO e.symm)⟩
   have a9:l[k]! < (4096:Int):=by simpa using a1
   refine AZ (AC (AB kR (AA (AD (vI (l[k]!)) rfl (AA (AG (vI (l[k]!)) rfl (AE (BU (AC (AB kR (AA (DQ .i64 ((k:Nat):Int) (1:Int) (((k+1:Nat):Int)) rfl rfl (HR oM oM) (AA (AD (vI ((k+1:Nat):Int)) rfl (AE (AC (?_)))))))))))))))))
   exact ⟨_,oM,(k+1),oM,(hr0_1.trans (HP oM (by ((repeat ((refine (if_neg ?_).trans ?_;solve|(simp only [GH,dbs];(repeat (omega))))));rfl)))),rfl,⟨_,BL _ ⟨(by rfl),rfl,rfl,(by rfl),rfl,trivial⟩⟩,rfl⟩
  have b0:l[k]!≤GL l k:=by simpa using a3
  refine AU rfl (AU rfl (AA (AY (vO true) rfl rfl (AE (AC (AP true rfl rfl (fun _=>AF (AB kR (AA (AG (vO false) rfl (AE (AC (AT (BA (CK (BA (BA (CK (BA (BF rfl (CU rfl rfl rfl) (?_))))))))))))))) (fun h=>by cases h)))))))
  have e:(ER l)=false:=by (rw [hr0_1];exact FD oM (by ((repeat ((refine (if_pos ?_).trans ?_;solve|(simp only [GH,dbs];(repeat (omega))))));rfl)))
  exact ⟨_,rfl,s0.keep,(by exact congrArg vO e.symm)⟩
 have b1:(l.length:Int)≤((k:Nat):Int):=by simpa using a0
 refine EX (CV (CV (EB (AC (AF (AB kR (AA (AG (vO true) rfl (AE (AC (AT (BF rfl (CU rfl rfl rfl) (?_)))))))))))))
 have e:(ER l)=true:=by (rw [hr0_1];exact JQ oM)
 exact ⟨_,rfl,s0.keep,(by exact congrArg vO e.symm)⟩
set_option maxHeartbeats 4000000 in
set_option maxRecDepth 100000 in
theorem c_recOK {O:List Nat} (r_cs:List Value) (r:Recovery) (w:World) (b3:Enc.recovery.rd w O r_cs r) (hO:∀ b∈O,b<w.heap.size):DA Try.prog 34 [.agg r_cs.toArray] w (fun v _=>v = .bool (CP r)):= by
 have b3:Enc.recovery.rd w ([]++O) r_cs r:=b3
 have s0:St w O w []:=St.start hO
 refine CA 37 Try.func34 rfl rfl oT (fun F0=>AF (AB kR (AA (EY (E:=Enc.recovery) (vA r_cs.toArray) (r_cs) r rfl rfl b3 s0 fun e3 c6 a1 e4 e5 a0=>(AA (AG (vO false) rfl (AE (AC (AF (AF (AB kR (AA (BG 2 EM (r.state) rfl a0 (fun _ _ _ h=>EC h) fun e6 b7=>(AA (BW U3_ rfl rfl b7 (AA (DU .i64 r.state (0:Int) rfl rfl (AA (AD (vO (decide (r.state<(0:Int)))) rfl (?_))))))))))))))))))))
 cases a6:(decide (r.state<(0:Int)))
 ·have d3:(0:Int)≤r.state:=by simpa using a6
  refine AQ rfl (BG 2 EM (r.state) rfl a0 (fun _ _ _ h=>EC h) fun e7 b8=>(AQ rfl (BW U3_ rfl rfl b8 (AQ rfl (JD .i64 r.state (2:Int) rfl rfl (AA (BM (vO (decide ((2:Int)<r.state))) rfl rfl (AA (AD (vO (decide ((2:Int)<r.state))) rfl (?_))))))))))
  cases a7:(decide ((2:Int)<r.state))
  ·have d4:r.state≤(2:Int):=by simpa using a7
   refine AQ rfl (BG 3 HF (r.approved) rfl a0 (fun _ _ _ h=>EW h) fun e8 b9=>(AQ rfl (CD U22_ rfl rfl b9 fun b4 a8=>(?_))))
   have:=a8.len_le
   refine AQ rfl (BJ (vs:=[b4]) enter_33 (c_incr (O:=[]++O) b4 r.approved c6 a8 a1.lt) rfl a1 fun e9 c7 a4 c8 f0 c9=>(?_))
   obtain rfl:=c9
   have a0:=a0.mv c8
   refine AQ rfl (EI (ER r.approved) rfl (AA (BM (vO (!(ER r.approved))) rfl rfl (AE (AC (AP (!(ER r.approved)) rfl rfl (fun a2=>?_) (fun a2=>?_)))))))
   ·have d5:(ER r.approved)=false:=by simpa using a2
    refine AF (AB kR (AA (AG (vO false) rfl (AE (AC (AT (BA (BF rfl (CU rfl rfl rfl) (?_)))))))))
    have e:(CP r)=false:=by (unfold CP;((repeat ((refine (if_pos ?_).trans ?_;solve|(simp only [dbs];(repeat ((right;omega)))))));rfl))
    exact ⟨_,rfl,a4.keep,(by exact congrArg vO e.symm)⟩
   have d6:(ER r.approved)=true:=by simpa using a2
   refine AZ (AC (AF (AF (AB kR (AA (BG 2 EM (r.state) rfl a0 (fun _ _ _ h=>EC h) fun f1 c0=>(AA (BW U3_ rfl rfl c0 (AA (CS .i64 r.state (2:Int) rfl rfl (AE (AC (AP (r.state == (2:Int)) rfl rfl (fun a3=>?_) (fun a3=>?_))))))))))))))
   ·have d7:r.state=(2:Int):=by simpa using a3
    refine AF (IP 11 _ _ kR kR kR kR kR rfl rfl fun b5 b6=>?_)
    have a5:=a4.call b6
    have d0:Mv ([]) c7 ([]) b5:=Mv.of_keep b6
    have a0:=a0.mv d0
    refine DM (BG 4 f_47_4 (r.vetoed) rfl a0 (fun _ _ _ h=>GI h) fun f2 c1=>(DM (CD U22_ rfl rfl c1 fun f3 a9=>(?_))))
    have:=a9.len_le
    refine DM (CO U22_ rfl a9 (DM (CS .i64 (r.vetoed.length:Int) (1:Int) rfl rfl (DM (AD (vO ((r.vetoed.length:Int) == (1:Int))) rfl (?_))))))
    cases b0:((r.vetoed.length:Int) == (1:Int))
    ·have d8:(r.vetoed.length:Int)≠(1:Int):=by simpa using b0
     refine wq_k rfl (wq_k rfl (wq_k rfl (wq_k rfl (wq_k rfl (wq_k rfl (JJ (AU rfl (AA (BM (vO false) rfl rfl (AA (AG (vO false) rfl (AE (AC (AT (BA (BF rfl (CU rfl rfl rfl) (?_)))))))))))))))))
     have e:(CP r)=false:=by (simp_all [CP];done)
     exact ⟨_,rfl,a5.keep,(by exact congrArg vO e.symm)⟩
    have d9:(r.vetoed.length:Int)=(1:Int):=by simpa using b0
    refine wq_t rfl (BG 4 f_47_4 (r.vetoed) rfl a0 (fun _ _ _ h=>GI h) fun f4 c2=>(wq_t rfl (CD U22_ rfl rfl c2 fun f5 b1=>(?_))))
    have:=b1.len_le
    refine wq_t rfl (DV U22_ IA .i64 (0:Int) 0 rfl rfl rfl b1 oM fun f6 c3=>(wq_t rfl (BW U3_ rfl rfl c3 (wq_t rfl (BG 1 HM (r.asked) rfl a0 (fun _ _ _ h=>LF h) fun f7 c4=>(wq_t rfl (BW U3_ rfl rfl c4 (JJ (AQ rfl (BJ (vs:=[vI (r.vetoed[0]!),vI r.asked]) GX (IB (O:=[]++O) (r.vetoed[0]!) r.asked b5 a5.lt) rfl a5 fun f8 f9 d1 g0 g1 d2=>(?_)))))))))))
    obtain rfl:=d2
    refine AA (AY (vO (BI (r.vetoed[0]!) r.asked)) rfl rfl (AA (AG (vO (BI (r.vetoed[0]!) r.asked)) rfl (AE (AC (AT (BA (BF rfl (CU rfl rfl rfl) (?_)))))))))
    have e:(CP r)=(BI (r.vetoed[0]!) r.asked):=by (simp_all [CP];done)
    exact ⟨_,rfl,d1.keep,(by exact congrArg vO e.symm)⟩
   have e0:r.state≠(2:Int):=by simpa using a3
   refine AZ (AC (AF (AB kR (AA (BG 4 f_47_4 (r.vetoed) rfl a0 (fun _ _ _ h=>GI h) fun g2 c5=>(AA (CD U22_ rfl rfl c5 fun g3 b2=>(?_))))))))
   have:=b2.len_le
   refine AA (CO U22_ rfl b2 (AA (CS .i64 (r.vetoed.length:Int) (0:Int) rfl rfl (AA (AG (vO ((r.vetoed.length:Int) == (0:Int))) rfl (AE (AC (AT (BF rfl (CU rfl rfl rfl) (?_))))))))))
   have e:(CP r)=((r.vetoed.length:Int) == (0:Int)):=by (unfold CP;((repeat ((refine (if_neg ?_).trans ?_;solve|(simp only [dbs];(repeat (omega)))|(rw [Bool.not_eq_true];simp only [dbs];((repeat' apply And.intro) <;> omega)))));rfl))
   exact ⟨_,rfl,a4.keep,(by exact congrArg vO e.symm)⟩
  have e1:(2:Int)<r.state:=by simpa using a7
  refine AU rfl (AU rfl (AU rfl (AU rfl (AA (AY (vO true) rfl rfl (AE (AC (AP true rfl rfl (fun _=>AF (AB kR (AA (AG (vO false) rfl (AE (AC (AT (BA (BF rfl (CU rfl rfl rfl) (?_)))))))))) (fun h=>by cases h)))))))))
  have e:(CP r)=false:=by (unfold CP;((repeat ((refine (if_pos ?_).trans ?_;solve|(simp only [dbs];(repeat (omega))))));rfl))
  exact ⟨_,rfl,a1.keep,(by exact congrArg vO e.symm)⟩
 have e2:r.state<(0:Int):=by simpa using a6
 refine AU rfl (AU rfl (AU rfl (AA (AY (vO true) rfl rfl (AA (AD (vO true) rfl (AU rfl (AU rfl (AU rfl (AU rfl (AA (AY (vO true) rfl rfl (AE (AC (AP true rfl rfl (fun _=>AF (AB kR (AA (AG (vO false) rfl (AE (AC (AT (BA (BF rfl (CU rfl rfl rfl) (?_)))))))))) (fun h=>by cases h))))))))))))))))
 have e:(CP r)=false:=by (unfold CP;((repeat ((refine (if_pos ?_).trans ?_;solve|(simp only [dbs];(repeat (omega))))));rfl))
 exact ⟨_,rfl,a1.keep,(by exact congrArg vO e.symm)⟩
open Go.Fw Go.RowKit
set_option maxHeartbeats 4000000 in
set_option maxRecDepth 100000 in
theorem GB {O:List Nat} (c_cs:List Value) (c:Circle) (w:World) (d8:Enc.circle.rd w O c_cs c) (hO:∀ b∈O,b<w.heap.size):DA Try.prog 16 [.agg c_cs.toArray] w (fun v _=>v=vI (AL c)):= by
 have d8:Enc.circle.rd w ([]++O) c_cs c:=d8
 have s0:St w O w []:=St.start hO
 refine CA 95 Try.func16 rfl rfl oT (fun F0=>AF (AB kR (AA (EY (E:=Enc.circle) (vA c_cs.toArray) (c_cs) c rfl rfl d8 s0 fun d9 f7 a5 k2 k3 a0=>(AA (AG (vI 0) rfl (AE (AC (AF (AB kR (AA (BG 3 KG (c.guardians) rfl a0 (fun _ _ _ h=>GE h) fun k4 e3=>(AA (CD U22_ rfl rfl e3 fun k5 c2=>(?_)))))))))))))))
 have:=c2.len_le
 refine AA (CO U22_ rfl c2 (AA (AG (vI (c.guardians.length:Int)) rfl (AE (AC (AF (AF (AB kR (AA (BG 0 f_25_0 (c.epoch) rfl a0 (fun _ _ _ h=>JF h) fun k6 e4=>(AA (BW U3_ rfl rfl e4 (AA (DU .i64 c.epoch (0:Int) rfl rfl (AA (AD (vO (decide (c.epoch<(0:Int)))) rfl (?_)))))))))))))))))
 cases c3:(decide (c.epoch<(0:Int)))
 ·have h2:(0:Int)≤c.epoch:=by simpa using c3
  refine AQ rfl (BG 0 f_25_0 (c.epoch) rfl a0 (fun _ _ _ h=>JF h) fun k7 e5=>(AQ rfl (BW U3_ rfl rfl e5 (AQ rfl (JD .i64 c.epoch (1048576:Int) rfl rfl (AA (BM (vO (decide ((1048576:Int)<c.epoch))) rfl rfl (AA (AD (vO (decide ((1048576:Int)<c.epoch))) rfl (?_))))))))))
  cases c4:(decide ((1048576:Int)<c.epoch))
  ·have h3:c.epoch≤(1048576:Int):=by simpa using c4
   refine AQ rfl (AD (vI (c.guardians.length:Int)) rfl (AQ rfl (DU .i64 (c.guardians.length:Int) (1:Int) rfl rfl (AA (BM (vO (decide ((c.guardians.length:Int)<(1:Int)))) rfl rfl (AA (AD (vO (decide ((c.guardians.length:Int)<(1:Int)))) rfl (?_))))))))
   cases c5:(decide ((c.guardians.length:Int)<(1:Int)))
   ·have h4:(1:Int)≤(c.guardians.length:Int):=by simpa using c5
    refine AQ rfl (AD (vI (c.guardians.length:Int)) rfl (AQ rfl (JD .i64 (c.guardians.length:Int) (8:Int) rfl rfl (AA (BM (vO (decide ((8:Int)<(c.guardians.length:Int)))) rfl rfl (AA (AD (vO (decide ((8:Int)<(c.guardians.length:Int)))) rfl (?_))))))))
    cases c6:(decide ((8:Int)<(c.guardians.length:Int)))
    ·have h5:(c.guardians.length:Int)≤(8:Int):=by simpa using c6
     refine AQ rfl (BG 3 KG (c.guardians) rfl a0 (fun _ _ _ h=>GE h) fun k8 e6=>(AQ rfl (CD U22_ rfl rfl e6 fun e0 c7=>(?_))))
     have:=c7.len_le
     refine AQ rfl (BJ (vs:=[e0]) enter_33 (c_incr (O:=[]++O) e0 c.guardians f7 c7 a5.lt) rfl a5 fun k9 f8 a6 f9 l0 g0=>(?_))
     obtain rfl:=g0
     have a0:=a0.mv f9
     refine AQ rfl (EI (ER c.guardians) rfl (AA (BM (vO (!(ER c.guardians))) rfl rfl (AA (AD (vO (!(ER c.guardians))) rfl (?_))))))
     cases c8:(!(ER c.guardians))
     ·have h6:(ER c.guardians)=true:=by simpa using c8
      refine AQ rfl (BG 1 f_25_1 (c.threshold) rfl a0 (fun _ _ _ h=>HK h) fun l1 e7=>(AQ rfl (BW U3_ rfl rfl e7 (AQ rfl (DU .i64 c.threshold (1:Int) rfl rfl (AA (BM (vO (decide (c.threshold<(1:Int)))) rfl rfl (AA (AD (vO (decide (c.threshold<(1:Int)))) rfl (?_))))))))))
      cases c9:(decide (c.threshold<(1:Int)))
      ·have h7:(1:Int)≤c.threshold:=by simpa using c9
       refine AQ rfl (BG 1 f_25_1 (c.threshold) rfl a0 (fun _ _ _ h=>HK h) fun l2 e8=>(AQ rfl (BW U3_ rfl rfl e8 (AQ rfl (AD (vI (c.guardians.length:Int)) rfl (AQ rfl (JD .i64 c.threshold (c.guardians.length:Int) rfl rfl (AA (BM (vO (decide ((c.guardians.length:Int)<c.threshold))) rfl rfl (AA (AD (vO (decide ((c.guardians.length:Int)<c.threshold))) rfl (?_))))))))))))
       cases d0:(decide ((c.guardians.length:Int)<c.threshold))
       ·have h8:c.threshold≤(c.guardians.length:Int):=by simpa using d0
        refine AQ rfl (BG 2 f_25_2 (c.wait) rfl a0 (fun _ _ _ h=>JB h) fun l3 e9=>(AQ rfl (BW U3_ rfl rfl e9 (AQ rfl (BJ (vs:=[vI c.wait,vI 0]) GX (IB (O:=[]++O) c.wait (0:Int) f8 a6.lt) rfl a6 fun l4 l5 b8 g1 l6 g2=>(?_))))))
        obtain rfl:=g2
        have a0:=a0.mv g1
        refine AQ rfl (EI (BI c.wait (0:Int)) rfl (AA (BM (vO (!(BI c.wait (0:Int)))) rfl rfl (AA (AD (vO (!(BI c.wait (0:Int)))) rfl (?_))))))
        cases d1:(!(BI c.wait (0:Int)))
        ·have h9:(BI c.wait (0:Int))=true:=by simpa using d1
         refine AQ rfl (BG 4 BR (c.recs) rfl a0 (fun _ _ _ h=>BO h) fun l7 f0=>(AQ rfl (CD U23_ rfl rfl f0 fun l8 d2=>(?_))))
         have:=d2.len_le
         refine AQ rfl (CO U23_ rfl d2 (AQ rfl (JD .i64 (c.recs.length:Int) (1024:Int) rfl rfl (AA (BM (vO (decide ((1024:Int)<(c.recs.length:Int)))) rfl rfl (AE (AC (AP (decide ((1024:Int)<(c.recs.length:Int))) rfl rfl (fun b0=>?_) (fun b0=>?_)))))))))
         ·have i0:(1024:Int)<(c.recs.length:Int):=by simpa using b0
          refine AF (AB kR (AA (AG (vI 450) rfl (AE (AC (AT (BA (BF rfl (CU rfl rfl rfl) (?_)))))))))
          have e:(AL c)=(450:Int):=by (unfold AL;((repeat ((refine (if_pos ?_).trans ?_;solve|(simp only [CI,DE,dbs];(repeat (omega))))));rfl))
          exact ⟨_,rfl,b8.keep,by rw [e];exact rfl⟩
         have i1:(c.recs.length:Int)≤(1024:Int):=by simpa using b0
         refine AZ (AC (AF (AB kR (AA (AG (vI 0) rfl (AE (AC (AF (AF (AB kR (AA (BG 4 BR (c.recs) rfl a0 (fun _ _ _ h=>BO h) fun l9 f1=>(AA (CD U23_ rfl rfl f1 fun e1 a1=>(?_)))))))))))))))
         have:=a1.len_le
         refine AA (CO U23_ rfl a1 (AA (AD (vI 0) rfl (AE (AC (BX (FH (fun mI FI wI=>∃ (k:Nat) (B:List Nat),k≤c.recs.length∧AL c=HI (fun k=>if DE c.recs k then some 450 else none) 0 k (c.recs.length - k)∧mI=c.recs.length - k∧(∃ F1,FI=II F1 [(1,vP (some d9)),(4,vI (CZ c.recs k)),(56,e1),(57,vI (c.recs.length:Int)),(58,vI ((k:Nat):Int)),(95,undef)])∧St w O wI B∧PT Enc.circle wI (B++O) (.pointer (some d9)) (c)∧BV Enc.recovery wI (B++O) (e1) (c.recs)) (c.recs.length - (0)) ?_ ?_)))))))
         ·exact ⟨(0),[],oM,(by unfold AL;((repeat ((refine (if_neg ?_).trans ?_;solve|(simp only [CI,DE,dbs];(repeat (first|omega|assumption|(right;first|omega|assumption|(constructor <;> first|omega|assumption))|left)))|(rw [Bool.not_eq_true];simp only [CI,DE,dbs];((repeat' apply And.intro) <;> omega)))));rfl)),rfl,⟨_,BL _ ⟨rfl,(by rfl),rfl,rfl,(by rfl),rfl,trivial⟩⟩,b8,a0,a1⟩
         intro m8 F m9 hI
         clear a0 a1
         obtain ⟨k,b7,hr0_0,hr0_1,n2,⟨n3,rfl⟩,f6,a0,a1⟩:=hI
         refine AF (AB kR (AA (DU .i64 ((k:Nat):Int) (c.recs.length:Int) rfl rfl (AE (AC (AF (AP (decide (((k:Nat):Int)<(c.recs.length:Int))) rfl rfl (fun b1=>?_) (fun b1=>?_))))))))
         ·have i2:((k:Nat):Int)<(c.recs.length:Int):=by simpa using b1
          refine AZ (AC (AF (BX (AF (AB kR (AA (AD (vI ((k:Nat):Int)) rfl (AA (DV U23_ DC .i64 ((k:Nat):Int) k rfl rfl rfl a1 oM fun m0 f2=>(AA (CH U47_ rfl DC rfl f2 fun f3 b2=>(AA (BS [vI 0,vI 0,vI 0,nS,nS] HH rfl f6 fun a7 g3 g4 g5 b9 m1 f4=>(?_))))))))))))))
          clear g4
          have a0:=a0.mv b9
          have a1:=a1.mv b9
          have b2:Enc.recovery.rd g3 ((a7 :: b7)++O) f3 (c.recs[k]!):=Enc.mv Enc.recovery (x:=c.recs[k]!) b2 b9
          refine AA (AG (vI ((k:Nat):Int)) rfl (?_))
          obtain ⟨a8,a9,rfl,a3,a4⟩:=b2
          have:=a3.len_le
          have:=a4.len_le
          refine BE (AS (vs:=[vI ((c.recs[k]!).no),vI ((c.recs[k]!).asked),vI ((c.recs[k]!).state),a8,a9]) (.agg #[vI ((c.recs[k]!).no),vI ((c.recs[k]!).asked),vI ((c.recs[k]!).state),a8,a9]) rfl rfl rfl DC (fun u hu=>by simp only [List.mem_cons,List.not_mem_nil,or_false] at hu;rcases hu with rfl|rfl|rfl|rfl|rfl <;> first|rfl|exact a3.oneCell|exact a4.oneCell) (by repeat (constructor)) f4 oT g5 fun g6 c0 b3 m2 a2=>(?_))
          have a0:=a0.mv b3
          have a1:=a1.mv b3
          have a3:=a3.mv b3
          have a4:=a4.mv b3
          refine AE (AC (AF (AF (AB kR (AA (AO 0 f_47_0 rfl (AA (AR U3_ rfl (vI ((c.recs[k]!).no)) rfl a2 rfl (AA (AD (vI ((k:Nat):Int)) rfl (AA (DS .i64 ((c.recs[k]!).no) ((k:Nat):Int) rfl rfl (AA (AD (vO (((c.recs[k]!).no) != ((k:Nat):Int))) rfl (?_)))))))))))))))
          cases d3:(((c.recs[k]!).no) != ((k:Nat):Int))
          ·have i3:(c.recs[k]!).no=((k:Nat):Int):=by simpa using d3
           refine AQ rfl (AO 1 HM rfl (AQ rfl (AR U3_ rfl (vI ((c.recs[k]!).asked)) rfl a2 rfl (AQ rfl (AD (vI (CZ c.recs k)) rfl (AQ rfl (BJ (vs:=[vI ((c.recs[k]!).asked),vI (CZ c.recs k)]) GX (IB (O:=(a7 :: b7)++O) ((c.recs[k]!).asked) (CZ c.recs k) g6 c0.lt) rfl c0 fun m3 g7 c1 b4 g8 g9=>(?_))))))))
           obtain rfl:=g9
           have a0:=a0.mv b4
           have a1:=a1.mv b4
           have a3:=a3.mv b4
           have a4:=a4.mv b4
           have a2:=a2.keep g8 (by simp)
           refine AQ rfl (EI (BI ((c.recs[k]!).asked) (CZ c.recs k)) rfl (AA (BM (vO (!(BI ((c.recs[k]!).asked) (CZ c.recs k)))) rfl rfl (AA (AD (vO (!(BI ((c.recs[k]!).asked) (CZ c.recs k)))) rfl (?_))))))
           cases d4:(!(BI ((c.recs[k]!).asked) (CZ c.recs k)))
           ·have i4:(BI ((c.recs[k]!).asked) (CZ c.recs k))=true:=by simpa using d4
            refine AQ rfl (AX (vs:=[vI ((c.recs[k]!).no),vI ((c.recs[k]!).asked),vI ((c.recs[k]!).state),a8,a9]) U47_ rfl DC rfl a2 rfl (AQ rfl (BJ (vs:=[vA #[vI ((c.recs[k]!).no),vI ((c.recs[k]!).asked),vI ((c.recs[k]!).state),a8,a9]]) enter_34 (c_recOK (O:=(a7 :: b7)++O) [vI ((c.recs[k]!).no),vI ((c.recs[k]!).asked),vI ((c.recs[k]!).state),a8,a9] (c.recs[k]!) g7 ⟨_,_,rfl,a3,a4⟩ c1.lt) rfl c1 fun m4 m5 b5 e2 h0 h1=>(?_))))
            obtain rfl:=h1
            have a0:=a0.mv e2
            have a1:=a1.mv e2
            have a2:=a2.keep h0 (by simp)
            refine AQ rfl (EI (CP (c.recs[k]!)) rfl (AA (BM (vO (!(CP (c.recs[k]!)))) rfl rfl (AA (AD (vO (!(CP (c.recs[k]!)))) rfl (?_))))))
            cases d5:(!(CP (c.recs[k]!)))
            ·have i5:(CP (c.recs[k]!))=true:=by simpa using d5
             refine AQ rfl (AO 2 EM rfl (AQ rfl (AR U3_ rfl (vI ((c.recs[k]!).state)) rfl a2 rfl (AQ rfl (CS .i64 ((c.recs[k]!).state) (0:Int) rfl rfl (AQ rfl (AD (vO (((c.recs[k]!).state) == (0:Int))) rfl (?_))))))))
             cases d6:(((c.recs[k]!).state) == (0:Int))
             ·have i6:(c.recs[k]!).state≠(0:Int):=by simpa using d6
              refine AU rfl (AU rfl (AU rfl (AU rfl (AU rfl (AU rfl (AQ rfl (BM (vO false) rfl rfl (AA (BM (vO false) rfl rfl (AE (AC (AP false rfl rfl (fun h=>by cases h) (fun _=>AZ (AC (AB kR (AA (AO 1 HM rfl (AA (AR U3_ rfl (vI ((c.recs[k]!).asked)) rfl a2 rfl (AA (AG (vI ((c.recs[k]!).asked)) rfl (AE (BU (AC (AB kR (AA (DQ .i64 ((k:Nat):Int) (1:Int) (((k+1:Nat):Int)) rfl rfl (HR oM oM) (AA (AD (vI ((k+1:Nat):Int)) rfl (AE (AC (?_))))))))))))))))))))))))))))))))
              exact ⟨_,oM,(k+1),(a7 :: b7),oM,(hr0_1.trans (HP oM (by ((repeat ((refine (if_neg ?_).trans ?_;solve|(simp only [CI,DE,dbs];(repeat (first|omega|assumption|(right;first|omega|assumption|(constructor <;> first|omega|assumption))|left)))|(rw [Bool.not_eq_true];simp only [CI,DE,dbs];((repeat' apply And.intro) <;> omega)))));rfl)))),rfl,⟨_,BL _ ⟨rfl,(by rfl),rfl,rfl,(by rfl),rfl,trivial⟩⟩,b5,a0,a1⟩
             have i7:(c.recs[k]!).state=(0:Int):=by simpa using d6
             refine AQ rfl (AD (vI ((k:Nat):Int)) rfl (AQ rfl (BG 4 BR (c.recs) rfl a0 (fun _ _ _ h=>BO h) fun m6 f5=>(AQ rfl (CD U23_ rfl rfl f5 fun m7 d7=>(?_))))))
             have:=d7.len_le
             refine AQ rfl (CO U23_ rfl d7 (AQ rfl (o_sub .i64 (c.recs.length:Int) (1:Int) ((c.recs.length:Int) - (1:Int)) rfl rfl (HR oM oM) (AQ rfl (DU .i64 ((k:Nat):Int) ((c.recs.length:Int) - (1:Int)) rfl rfl (AQ rfl (AY (vO (decide (((k:Nat):Int)<(c.recs.length:Int) - (1:Int)))) rfl rfl (AA (BM (vO (decide (((k:Nat):Int)<(c.recs.length:Int) - (1:Int)))) rfl rfl (AE (AC (AP (decide (((k:Nat):Int)<(c.recs.length:Int) - (1:Int))) rfl rfl (fun b6=>?_) (fun b6=>?_)))))))))))))
             ·have i8:((k:Nat):Int)<(c.recs.length:Int) - (1:Int):=by simpa using b6
              refine AF (AB kR (AA (AG (vI 450) rfl (AE (AC (AT (BA (CK (BA (BA (CK (BA (BF rfl (CU rfl rfl rfl) (?_))))))))))))))
              have e:(AL c)=(450:Int):=by (rw [hr0_1];exact FD oM (by ((repeat ((refine (if_pos ?_).trans ?_;solve|(simp only [CI,DE,dbs];(repeat (omega))))));rfl)))
              exact ⟨_,rfl,b5.keep,by rw [e];exact rfl⟩
             have i9:(c.recs.length:Int) - (1:Int)≤((k:Nat):Int):=by simpa using b6
             refine AZ (AC (AB kR (AA (AO 1 HM rfl (AA (AR U3_ rfl (vI ((c.recs[k]!).asked)) rfl a2 rfl (AA (AG (vI ((c.recs[k]!).asked)) rfl (AE (BU (AC (AB kR (AA (DQ .i64 ((k:Nat):Int) (1:Int) (((k+1:Nat):Int)) rfl rfl (HR oM oM) (AA (AD (vI ((k+1:Nat):Int)) rfl (AE (AC (?_)))))))))))))))))))
             exact ⟨_,oM,(k+1),(a7 :: b7),oM,(hr0_1.trans (HP oM (by ((repeat ((refine (if_neg ?_).trans ?_;solve|(simp only [CI,DE,dbs];(repeat (first|omega|assumption|(right;first|omega|assumption|(constructor <;> first|omega|assumption))|left)))|(rw [Bool.not_eq_true];simp only [CI,DE,dbs];((repeat' apply And.intro) <;> omega)))));rfl)))),rfl,⟨_,BL _ ⟨rfl,(by rfl),rfl,rfl,(by rfl),rfl,trivial⟩⟩,b5,a0,a1⟩
            have j0:(CP (c.recs[k]!))=false:=by simpa using d5
            refine AU rfl (AU rfl (AU rfl (AU rfl (DB rfl (DB rfl (DB rfl (DB rfl (DB rfl (DB rfl (AU rfl (AA (AY (vO true) rfl rfl (AE (AC (AP true rfl rfl (fun _=>AF (AB kR (AA (AG (vI 450) rfl (AE (AC (AT (BA (CK (BA (BA (CK (BA (BF rfl (CU rfl rfl rfl) (?_))))))))))))))) (fun h=>by cases h))))))))))))))))
            have e:(AL c)=(450:Int):=by (rw [hr0_1];exact FD oM (by ((repeat ((refine (if_pos ?_).trans ?_;solve|(simp only [CI,DE,dbs];(repeat (first|(right;omega)|left))))));rfl)))
            exact ⟨_,rfl,b5.keep,by rw [e];exact rfl⟩
           have j1:(BI ((c.recs[k]!).asked) (CZ c.recs k))=false:=by simpa using d4
           refine AU rfl (AU rfl (AU rfl (AA (AY (vO true) rfl rfl (AA (AD (vO true) rfl (AU rfl (AU rfl (AU rfl (AU rfl (DB rfl (DB rfl (DB rfl (DB rfl (DB rfl (DB rfl (AU rfl (AA (AY (vO true) rfl rfl (AE (AC (AP true rfl rfl (fun _=>AF (AB kR (AA (AG (vI 450) rfl (AE (AC (AT (BA (CK (BA (BA (CK (BA (BF rfl (CU rfl rfl rfl) (?_))))))))))))))) (fun h=>by cases h)))))))))))))))))))))))
           have e:(AL c)=(450:Int):=by (rw [hr0_1];exact FD oM (by ((repeat ((refine (if_pos ?_).trans ?_;solve|(simp only [CI,DE,dbs];(repeat (first|(right;omega)|left))))));rfl)))
           exact ⟨_,rfl,c1.keep,by rw [e];exact rfl⟩
          have j2:(c.recs[k]!).no≠((k:Nat):Int):=by simpa using d3
          refine AU rfl (AU rfl (AU rfl (AU rfl (AU rfl (AA (AY (vO true) rfl rfl (AA (AD (vO true) rfl (AU rfl (AU rfl (AU rfl (AA (AY (vO true) rfl rfl (AA (AD (vO true) rfl (AU rfl (AU rfl (AU rfl (AU rfl (DB rfl (DB rfl (DB rfl (DB rfl (DB rfl (DB rfl (AU rfl (AA (AY (vO true) rfl rfl (AE (AC (AP true rfl rfl (fun _=>AF (AB kR (AA (AG (vI 450) rfl (AE (AC (AT (BA (CK (BA (BA (CK (BA (BF rfl (CU rfl rfl rfl) (?_))))))))))))))) (fun h=>by cases h))))))))))))))))))))))))))))))))
          have e:(AL c)=(450:Int):=by (rw [hr0_1];exact FD oM (by ((repeat ((refine (if_pos ?_).trans ?_;solve|(simp only [CI,DE,dbs];(repeat (omega))))));rfl)))
          exact ⟨_,rfl,c0.keep,by rw [e];exact rfl⟩
         have j3:(c.recs.length:Int)≤((k:Nat):Int):=by simpa using b1
         refine EX (CV (CV (EB (AC (AF (AB kR (AA (AG (vI 0) rfl (AE (AC (AT (BF rfl (CU rfl rfl rfl) (?_)))))))))))))
         have e:(AL c)=(0:Int):=by (rw [hr0_1];exact JQ oM)
         exact ⟨_,rfl,f6.keep,by rw [e];exact rfl⟩
        have j4:(BI c.wait (0:Int))=false:=by simpa using d1
        refine AU rfl (AU rfl (AU rfl (AU rfl (AA (AY (vO true) rfl rfl (AE (AC (AP true rfl rfl (fun _=>AF (AB kR (AA (AG (vI 450) rfl (AE (AC (AT (BA (BF rfl (CU rfl rfl rfl) (?_)))))))))) (fun h=>by cases h)))))))))
        have e:(AL c)=(450:Int):=by (unfold AL;((repeat ((refine (if_pos ?_).trans ?_;solve|(simp only [CI,DE,dbs];(repeat (first|(right;omega)|left))))));rfl))
        exact ⟨_,rfl,b8.keep,by rw [e];exact rfl⟩
       have j5:(c.guardians.length:Int)<c.threshold:=by simpa using d0
       refine AU rfl (AU rfl (AU rfl (AU rfl (AA (AY (vO true) rfl rfl (AA (AD (vO true) rfl (AU rfl (AU rfl (AU rfl (AU rfl (AA (AY (vO true) rfl rfl (AE (AC (AP true rfl rfl (fun _=>AF (AB kR (AA (AG (vI 450) rfl (AE (AC (AT (BA (BF rfl (CU rfl rfl rfl) (?_)))))))))) (fun h=>by cases h)))))))))))))))))
       have e:(AL c)=(450:Int):=by (unfold AL;((repeat ((refine (if_pos ?_).trans ?_;solve|(simp only [CI,DE,dbs];(repeat (omega))))));rfl))
       exact ⟨_,rfl,a6.keep,by rw [e];exact rfl⟩
      have j6:c.threshold<(1:Int):=by simpa using c9
      refine AU rfl (AU rfl (AU rfl (AU rfl (AA (AY (vO true) rfl rfl (AA (AD (vO true) rfl (AU rfl (AU rfl (AU rfl (AU rfl (AA (AY (vO true) rfl rfl (AA (AD (vO true) rfl (AU rfl (AU rfl (AU rfl (AU rfl (AA (AY (vO true) rfl rfl (AE (AC (AP true rfl rfl (fun _=>AF (AB kR (AA (AG (vI 450) rfl (AE (AC (AT (BA (BF rfl (CU rfl rfl rfl) (?_)))))))))) (fun h=>by cases h)))))))))))))))))))))))))
      have e:(AL c)=(450:Int):=by (unfold AL;((repeat ((refine (if_pos ?_).trans ?_;solve|(simp only [CI,DE,dbs];(repeat (omega))))));rfl))
      exact ⟨_,rfl,a6.keep,by rw [e];exact rfl⟩
     have j7:(ER c.guardians)=false:=by simpa using c8
     refine AU rfl (AU rfl (AU rfl (AA (AY (vO true) rfl rfl (AA (AD (vO true) rfl (AU rfl (AU rfl (AU rfl (AU rfl (AA (AY (vO true) rfl rfl (AA (AD (vO true) rfl (AU rfl (AU rfl (AU rfl (AU rfl (AA (AY (vO true) rfl rfl (AA (AD (vO true) rfl (AU rfl (AU rfl (AU rfl (AU rfl (AA (AY (vO true) rfl rfl (AE (AC (AP true rfl rfl (fun _=>AF (AB kR (AA (AG (vI 450) rfl (AE (AC (AT (BA (BF rfl (CU rfl rfl rfl) (?_)))))))))) (fun h=>by cases h))))))))))))))))))))))))))))))))
     have e:(AL c)=(450:Int):=by (unfold AL;((repeat ((refine (if_pos ?_).trans ?_;solve|(simp only [CI,DE,dbs];(repeat (first|(right;omega)|left))))));rfl))
     exact ⟨_,rfl,a6.keep,by rw [e];exact rfl⟩
    have j8:(8:Int)<(c.guardians.length:Int):=by simpa using c6
    refine AU rfl (AU rfl (AU rfl (AU rfl (AA (AY (vO true) rfl rfl (AA (AD (vO true) rfl (AU rfl (AU rfl (AU rfl (AA (AY (vO true) rfl rfl (AA (AD (vO true) rfl (AU rfl (AU rfl (AU rfl (AU rfl (AA (AY (vO true) rfl rfl (AA (AD (vO true) rfl (AU rfl (AU rfl (AU rfl (AU rfl (AA (AY (vO true) rfl rfl (AA (AD (vO true) rfl (AU rfl (AU rfl (AU rfl (AU rfl (AA (AY (vO true) rfl rfl (AE (AC (AP true rfl rfl (fun _=>AF (AB kR (AA (AG (vI 450) rfl (AE (AC (AT (BA (BF rfl (CU rfl rfl rfl) (?_)))))))))) (fun h=>by cases h))))))))))))))))))))))))))))))))))))))))
    have e:(AL c)=(450:Int):=by (unfold AL;((repeat ((refine (if_pos ?_).trans ?_;solve|(simp only [CI,DE,dbs];(repeat (omega))))));rfl))
    exact ⟨_,rfl,a5.keep,by rw [e];exact rfl⟩
   have j9:(c.guardians.length:Int)<(1:Int):=by simpa using c5
   refine AU rfl (AU rfl (AA (AY (vO true) rfl rfl (AA (AD (vO true) rfl (AU rfl (AU rfl (AU rfl (AU rfl (AA (AY (vO true) rfl rfl (AA (AD (vO true) rfl (AU rfl (AU rfl (AU rfl (AA (AY (vO true) rfl rfl (AA (AD (vO true) rfl (AU rfl (AU rfl (AU rfl (AU rfl (AA (AY (vO true) rfl rfl (AA (AD (vO true) rfl (AU rfl (AU rfl (AU rfl (AU rfl (AA (AY (vO true) rfl rfl (AA (AD (vO true) rfl (AU rfl (AU rfl (AU rfl (AU rfl (AA (AY (vO true) rfl rfl (AE (AC (AP true rfl rfl (fun _=>AF (AB kR (AA (AG (vI 450) rfl (AE (AC (AT (BA (BF rfl (CU rfl rfl rfl) (?_)))))))))) (fun h=>by cases h))))))))))))))))))))))))))))))))))))))))))))))
   have e:(AL c)=(450:Int):=by (unfold AL;((repeat ((refine (if_pos ?_).trans ?_;solve|(simp only [CI,DE,dbs];(repeat (omega))))));rfl))
   exact ⟨_,rfl,a5.keep,by rw [e];exact rfl⟩
  have k0:(1048576:Int)<c.epoch:=by simpa using c4
  refine AU rfl (AU rfl (AA (AY (vO true) rfl rfl (AA (AD (vO true) rfl (AU rfl (AU rfl (AA (AY (vO true) rfl rfl (AA (AD (vO true) rfl (AU rfl (AU rfl (AU rfl (AU rfl (AA (AY (vO true) rfl rfl (AA (AD (vO true) rfl (AU rfl (AU rfl (AU rfl (AA (AY (vO true) rfl rfl (AA (AD (vO true) rfl (AU rfl (AU rfl (AU rfl (AU rfl (AA (AY (vO true) rfl rfl (AA (AD (vO true) rfl (AU rfl (AU rfl (AU rfl (AU rfl (AA (AY (vO true) rfl rfl (AA (AD (vO true) rfl (AU rfl (AU rfl (AU rfl (AU rfl (AA (AY (vO true) rfl rfl (AE (AC (AP true rfl rfl (fun _=>AF (AB kR (AA (AG (vI 450) rfl (AE (AC (AT (BA (BF rfl (CU rfl rfl rfl) (?_)))))))))) (fun h=>by cases h))))))))))))))))))))))))))))))))))))))))))))))))))))
  have e:(AL c)=(450:Int):=by (unfold AL;((repeat ((refine (if_pos ?_).trans ?_;solve|(simp only [CI,DE,dbs];(repeat (omega))))));rfl))
  exact ⟨_,rfl,a5.keep,by rw [e];exact rfl⟩
 have k1:c.epoch<(0:Int):=by simpa using c3
 refine AU rfl (AU rfl (AU rfl (AA (AY (vO true) rfl rfl (AA (AD (vO true) rfl (AU rfl (AU rfl (AA (AY (vO true) rfl rfl (AA (AD (vO true) rfl (AU rfl (AU rfl (AA (AY (vO true) rfl rfl (AA (AD (vO true) rfl (AU rfl (AU rfl (AU rfl (AU rfl (AA (AY (vO true) rfl rfl (AA (AD (vO true) rfl (AU rfl (AU rfl (AU rfl (AA (AY (vO true) rfl rfl (AA (AD (vO true) rfl (AU rfl (AU rfl (AU rfl (AU rfl (AA (AY (vO true) rfl rfl (AA (AD (vO true) rfl (AU rfl (AU rfl (AU rfl (AU rfl (AA (AY (vO true) rfl rfl (AA (AD (vO true) rfl (AU rfl (AU rfl (AU rfl (AU rfl (AA (AY (vO true) rfl rfl (AE (AC (AP true rfl rfl (fun _=>AF (AB kR (AA (AG (vI 450) rfl (AE (AC (AT (BA (BF rfl (CU rfl rfl rfl) (?_)))))))))) (fun h=>by cases h)))))))))))))))))))))))))))))))))))))))))))))))))))))))))))
 have e:(AL c)=(450:Int):=by (unfold AL;((repeat ((refine (if_pos ?_).trans ?_;solve|(simp only [CI,DE,dbs];(repeat (omega))))));rfl))
 exact ⟨_,rfl,a5.keep,by rw [e];exact rfl⟩
open Go.Fw Go.RowKit
set_option maxHeartbeats 4000000 in
set_option maxRecDepth 100000 in
theorem c_new {O:List Nat} (l_v:Value) (l:List Int) (threshold:Int) (wait:Int) (w:World) (a7:BV Enc.int w O l_v l) (hpre0:l.length≤1000000) (hO:∀ b∈O,b<w.heap.size):DA Try.prog 11 [l_v,vI threshold,vI wait] w (fun v w'=>∃ (x0:List Value),v = .tuple #[.agg x0.toArray,vI ((CQ l threshold wait).2)]∧Enc.circle.rd w' (O) x0 ((CQ l threshold wait).1)):= by
 have h3:=a7.len_le
 have a7:BV Enc.int w ([]++O) l_v l:=a7
 have s0:St w O w []:=St.start hO
 refine CA 21 Try.func11 rfl rfl oT (fun F0=>AF (AB kR (AA (BS [vI 0,vI 0,vI 0,nS,nS] EZ rfl s0 fun a4 d5 d6 b7 d7 i1 a2=>(?_)))))
 clear d6
 have a7:=a7.mv d7
 refine AA (AG (vI 0) rfl (AE (AC (AF (AB kR (AA (AD (vI threshold) rfl (AA (AD (vI wait) rfl (AA (AD (l_v) rfl (AA (FY [l_v] _ enter_29 rfl (BC 8 Try.func29 rfl rfl oT (fun i2=>AF (AB kR (AA (AG (nS) rfl (AE (AC (AF (AF (AB kR (AA (AD (l_v) rfl (AA (HQ U22_ rfl rfl a7 fun a8 b8=>(AE (AC (AP (a8) rfl rfl (fun a9=>?_) (fun a9=>?_)))))))))))))))))) (fun _ _ h=>h))))))))))))))
 ·have h4:a8=true:=by simpa using a9
  refine AF (AB kR (AA (AG (nS) rfl (AE (AC (AT (BA (BF rfl (CU rfl rfl rfl) (?_)))))))))
  have b9:l=[]:=b8 aS
  have a3:BV Enc.int d5 ((a4 :: [])++O) (.slice none 0 0) (l):=by rw [b9];exact BV.nil _ _ _
  refine Exists.intro _ (And.intro rfl (AA (CR (l:=[(1, .tmp 9),(2, .tmp 10),(3, .tmp 12)]) NC EZ rfl [(1,vI threshold,[vI threshold]),(2,vI wait,[vI wait]),(3, .slice none 0 0,[.slice none 0 0])] [vI 0,vI threshold,vI wait, .slice none 0 0,nS] rfl ⟨_,rfl,rfl,oT,⟨_,rfl,rfl,oT,⟨_,rfl,(KK a3.oneCell),oT,rfl⟩⟩⟩ (BE (AS (vs:=[vI 0,vI threshold,vI wait, .slice none 0 0,nS]) (.agg #[vI 0,vI threshold,vI wait, .slice none 0 0,nS]) rfl rfl rfl AV (fun u hu=>by simp only [List.mem_cons,List.not_mem_nil,or_false] at hu;rcases hu with rfl|rfl|rfl|rfl|rfl <;> rfl) (by repeat (constructor)) a2 oT b7 fun d8 c0 d9 i3 a5=>(?_))))))
  have a3:=a3.mv d9
  refine AE (AC (AF (AF (AB kR (AA (AX (vs:=[vI 0,vI threshold,vI wait, .slice none 0 0,nS]) U25_ rfl AV rfl a5 rfl (AA (BJ (vs:=[vA #[vI 0,vI threshold,vI wait, .slice none 0 0,nS]]) ET (GB (O:=(a4 :: [])++O) [vI 0,vI threshold,vI wait, .slice none 0 0,nS] (⟨(0:Int),threshold,wait,l,[]⟩:Circle) d8 ⟨_, .slice none 0 0,rfl,a3,(BV.nil _ _ _)⟩ c0.lt) rfl c0 fun i4 i5 c1 e0 e2 e3=>(?_)))))))))
  obtain rfl:=e3
  have a3:=a3.mv e0
  have a5:=a5.keep e2 (by simp)
  refine AA (AG (vI (AL (⟨(0:Int),threshold,wait,l,[]⟩:Circle))) rfl (AE (AC (AF (AB kR (AA (AD (vI (AL (⟨(0:Int),threshold,wait,l,[]⟩:Circle))) rfl (AA (DS .i64 (AL (⟨(0:Int),threshold,wait,l,[]⟩:Circle)) (0:Int) rfl rfl (AE (AC (AP ((AL (⟨(0:Int),threshold,wait,l,[]⟩:Circle)) != (0:Int)) rfl rfl (fun b0=>?_) (fun b0=>?_)))))))))))))
  ·have h5:AL (⟨(0:Int),threshold,wait,l,[]⟩:Circle)≠(0:Int):=by simpa using b0
   refine AF (AB kR (AA (CR (l:=[]) NC EZ rfl [] [vI 0,vI 0,vI 0,nS,nS] rfl rfl (AA (AD (vI (AL (⟨(0:Int),threshold,wait,l,[]⟩:Circle))) rfl (BE (AS (vs:=[vI 0,vI 0,vI 0,nS,nS]) (.agg #[vI 0,vI 0,vI 0,nS,nS]) rfl rfl rfl AV (fun u hu=>by simp only [List.mem_cons,List.not_mem_nil,or_false] at hu;rcases hu with rfl|rfl|rfl|rfl|rfl <;> rfl) (by repeat (constructor)) a5 oT c1 fun i6 e4 i7 i8 c6=>(AA (AG (vI (AL (⟨(0:Int),threshold,wait,l,[]⟩:Circle))) rfl (AE (AC (AT (BA (BF rfl (BY rfl (CN (vs:=[vI 0,vI 0,vI 0,nS,nS]) rfl U25_ rfl AV rfl c6 rfl) (CY rfl rfl)) (?_)))))))))))))))
   have e5:((CQ l threshold wait).1)=(⟨(0:Int),(0:Int),(0:Int),[],[]⟩:Circle):=by exact congrArg (fun p=>p.1) (IT aS)
   have e6:((CQ l threshold wait).2)=(AL (⟨(0:Int),threshold,wait,l,[]⟩:Circle)):=by exact congrArg (fun p=>p.2) (IT aS)
   exact ⟨_,rfl,e4.keep,by rw [e5,e6];exact ⟨[vI 0,vI 0,vI 0,nS,nS],rfl,Enc.out (B:=(a4 :: [])) ⟨.slice none 0 0, .slice none 0 0,rfl,(BV.nil _ _ _),(BV.nil _ _ _)⟩⟩⟩
  have h6:AL (⟨(0:Int),threshold,wait,l,[]⟩:Circle)=(0:Int):=by simpa using b0
  refine AZ (AC (AF (AB kR (AA (AX (vs:=[vI 0,vI threshold,vI wait, .slice none 0 0,nS]) U25_ rfl AV rfl a5 rfl (BE (AS (vs:=[vI 0,vI threshold,vI wait, .slice none 0 0,nS]) (.agg #[vI 0,vI threshold,vI wait, .slice none 0 0,nS]) rfl rfl rfl AV (fun u hu=>by simp only [List.mem_cons,List.not_mem_nil,or_false] at hu;rcases hu with rfl|rfl|rfl|rfl|rfl <;> rfl) (by repeat (constructor)) a5 oT c1 fun i9 e7 e8 j0 c7=>(?_))))))))
  have a3:=a3.mv e8
  refine AA (AG (vI 0) rfl (AE (AC (AT (BF rfl (BY rfl (CN (vs:=[vI 0,vI threshold,vI wait, .slice none 0 0,nS]) rfl U25_ rfl AV rfl c7 rfl) (CY rfl rfl)) (?_))))))
  have e9:((CQ l threshold wait).1)=(⟨(0:Int),threshold,wait,l,[]⟩:Circle):=by exact congrArg (fun p=>p.1) (JT aS)
  have f0:((CQ l threshold wait).2)=(0:Int):=by exact congrArg (fun p=>p.2) (JT aS)
  exact ⟨_,rfl,e7.keep,by rw [e9,f0];exact ⟨[vI 0,vI threshold,vI wait, .slice none 0 0,nS],rfl,Enc.out (B:=(a4 :: [])) ⟨_, .slice none 0 0,rfl,a3,(BV.nil _ _ _)⟩⟩⟩
 have h7:a8=false:=by simpa using a9
 refine AZ (AC (AF (AB kR (AA (GJ (E:=Enc.int) (xs:=[]) U22_ IA z_3 (by decide) [] [] [] rfl rfl rfl (Parts.nil _ _ _) oT b7 fun c2 f1 j1 f2 b1 f3 f4 f5 c8=>(?_))))))
 have b5:∀ b,c2.ownBlock=some b→b≠a4:=fun b hb=>by have:=a2.lt;rw [b1] at hb;cases hb;omega
 have c9:∀ b,c2.ownBlock=some b→b∈(f1 :: (a4 :: [])):=fun b hb=>by rw [b1] at hb;cases hb;simp
 clear f2 b1
 have a7:=a7.mv f4
 have a2:=a2.keep f5 (by simp)
 refine AA (AD (l_v) rfl (AA (DK (E:=Enc.int) (l:=[]) (m:=l) U22_ i_3 rfl (by decide) rfl rfl c8 a7 (fun _ hb=>.inl hb) c9 (by simp;omega) (by simp [maxLen];omega) f3 fun a1 j2 f6 h8 d0 c3 f7 j3 f8 b6=>(?_))))
 rw [List.nil_append] at b6
 have d1:∀ b,a1.ownBlock=some b→b≠a4:=fun b hb=>by rcases d0 with e1|e1 <;> rw [e1] at hb <;> first|(cases hb;have:=a2.lt;omega)|(exact b5 b hb)
 have b4:a4∈f6:=c3 a4 (by repeat (constructor))
 have a2:=a2.keep f8 (by simp only [Option.mem_toList];exact fun e=>absurd rfl (b5 _ e))
 refine AA (AG (a1) rfl (AE (AC (AT (BF rfl (CU rfl rfl rfl) (Exists.intro _ (And.intro rfl (?_))))))))
 obtain ⟨b2,f9,j4,a0,d2⟩:=b6.publish f7
 have b4:a4∈b2:=d2 a4 (by repeat (assumption)) (fun e=>absurd rfl (d1 _ e))
 have h2:=a0.len_le
 have a2:=a2.keep (Keep.refl [] _) (by simp)
 refine AA (CR (l:=[(1, .tmp 9),(2, .tmp 10),(3, .tmp 12)]) NC EZ rfl [(1,vI threshold,[vI threshold]),(2,vI wait,[vI wait]),(3,a1,[a1])] [vI 0,vI threshold,vI wait,a1,nS] rfl ⟨_,rfl,rfl,oT,⟨_,rfl,rfl,oT,⟨_,rfl,(KK a0.oneCell),oT,rfl⟩⟩⟩ (BE (AS (vs:=[vI 0,vI threshold,vI wait,a1,nS]) (.agg #[vI 0,vI threshold,vI wait,a1,nS]) rfl rfl rfl AV (fun u hu=>by simp only [List.mem_cons,List.not_mem_nil,or_false] at hu;rcases hu with rfl|rfl|rfl|rfl|rfl <;> first|rfl|exact a0.oneCell) (by repeat (assumption)) a2 oT f9 fun g0 c4 g1 j5 a6=>(?_))))
 have a0:=a0.mv g1
 refine AE (AC (AF (AF (AB kR (AA (AX (vs:=[vI 0,vI threshold,vI wait,a1,nS]) U25_ rfl AV rfl a6 rfl (AA (BJ (vs:=[vA #[vI 0,vI threshold,vI wait,a1,nS]]) ET (GB (O:=b2++O) [vI 0,vI threshold,vI wait,a1,nS] (⟨(0:Int),threshold,wait,l,[]⟩:Circle) g0 ⟨_, .slice none 0 0,rfl,a0,(BV.nil _ _ _)⟩ c4.lt) rfl c4 fun j6 j7 c5 g2 g3 g4=>(?_)))))))))
 obtain rfl:=g4
 have a0:=a0.mv g2
 have a6:=a6.keep g3 (by simp)
 refine AA (AG (vI (AL (⟨(0:Int),threshold,wait,l,[]⟩:Circle))) rfl (AE (AC (AF (AB kR (AA (AD (vI (AL (⟨(0:Int),threshold,wait,l,[]⟩:Circle))) rfl (AA (DS .i64 (AL (⟨(0:Int),threshold,wait,l,[]⟩:Circle)) (0:Int) rfl rfl (AE (AC (AP ((AL (⟨(0:Int),threshold,wait,l,[]⟩:Circle)) != (0:Int)) rfl rfl (fun b3=>?_) (fun b3=>?_)))))))))))))
 ·have h9:AL (⟨(0:Int),threshold,wait,l,[]⟩:Circle)≠(0:Int):=by simpa using b3
  refine AF (AB kR (AA (CR (l:=[]) NC EZ rfl [] [vI 0,vI 0,vI 0,nS,nS] rfl rfl (AA (AD (vI (AL (⟨(0:Int),threshold,wait,l,[]⟩:Circle))) rfl (BE (AS (vs:=[vI 0,vI 0,vI 0,nS,nS]) (.agg #[vI 0,vI 0,vI 0,nS,nS]) rfl rfl rfl AV (fun u hu=>by simp only [List.mem_cons,List.not_mem_nil,or_false] at hu;rcases hu with rfl|rfl|rfl|rfl|rfl <;> rfl) (by repeat (assumption)) a6 oT c5 fun j8 g5 j9 k0 d3=>(AA (AG (vI (AL (⟨(0:Int),threshold,wait,l,[]⟩:Circle))) rfl (AE (AC (AT (BA (BF rfl (BY rfl (CN (vs:=[vI 0,vI 0,vI 0,nS,nS]) rfl U25_ rfl AV rfl d3 rfl) (CY rfl rfl)) (?_)))))))))))))))
  have g6:((CQ l threshold wait).1)=(⟨(0:Int),(0:Int),(0:Int),[],[]⟩:Circle):=by exact congrArg (fun p=>p.1) (IT aS)
  have g7:((CQ l threshold wait).2)=(AL (⟨(0:Int),threshold,wait,l,[]⟩:Circle)):=by exact congrArg (fun p=>p.2) (IT aS)
  exact ⟨_,rfl,g5.keep,by rw [g6,g7];exact ⟨[vI 0,vI 0,vI 0,nS,nS],rfl,Enc.out (B:=b2) ⟨.slice none 0 0, .slice none 0 0,rfl,(BV.nil _ _ _),(BV.nil _ _ _)⟩⟩⟩
 have i0:AL (⟨(0:Int),threshold,wait,l,[]⟩:Circle)=(0:Int):=by simpa using b3
 refine AZ (AC (AF (AB kR (AA (AX (vs:=[vI 0,vI threshold,vI wait,a1,nS]) U25_ rfl AV rfl a6 rfl (BE (AS (vs:=[vI 0,vI threshold,vI wait,a1,nS]) (.agg #[vI 0,vI threshold,vI wait,a1,nS]) rfl rfl rfl AV (fun u hu=>by simp only [List.mem_cons,List.not_mem_nil,or_false] at hu;rcases hu with rfl|rfl|rfl|rfl|rfl <;> first|rfl|exact a0.oneCell) (by repeat (assumption)) a6 oT c5 fun k1 g8 g9 k2 d4=>(?_))))))))
 have a0:=a0.mv g9
 refine AA (AG (vI 0) rfl (AE (AC (AT (BF rfl (BY rfl (CN (vs:=[vI 0,vI threshold,vI wait,a1,nS]) rfl U25_ rfl AV rfl d4 rfl) (CY rfl rfl)) (?_))))))
 have h0:((CQ l threshold wait).1)=(⟨(0:Int),threshold,wait,l,[]⟩:Circle):=by exact congrArg (fun p=>p.1) (JT aS)
 have h1:((CQ l threshold wait).2)=(0:Int):=by exact congrArg (fun p=>p.2) (JT aS)
 exact ⟨_,rfl,g8.keep,by rw [h0,h1];exact ⟨[vI 0,vI threshold,vI wait,a1,nS],rfl,Enc.out (B:=b2) ⟨_, .slice none 0 0,rfl,a0,(BV.nil _ _ _)⟩⟩⟩
set_option maxHeartbeats 4000000 in
set_option maxRecDepth 100000 in
theorem c_ask {O:List Nat} (c_cs:List Value) (c:Circle) (day:Int) (w:World) (j1:Enc.circle.rd w O c_cs c) (hO:∀ b∈O,b<w.heap.size):DA Try.prog 13 [.agg c_cs.toArray,vI day] w (fun v w'=>∃ (x0:List Value),v = .tuple #[.agg x0.toArray,vI ((BN c day).2.1),vI ((BN c day).2.2)]∧Enc.circle.rd w' (O) x0 ((BN c day).1)):= by
 have j1:Enc.circle.rd w ([]++O) c_cs c:=j1
 have s0:St w O w []:=St.start hO
 refine CA 55 Try.func13 rfl rfl oT (fun F0=>AF (AB kR (AA (EY (E:=Enc.circle) (vA c_cs.toArray) (c_cs) c rfl rfl j1 s0 fun E1 E2 q7 E3 E4 a5=>(AA (BS [vI 0,vI 0,vI 0,nS,nS] EZ rfl q7 fun a2 q8 q9 j2 r0 E5 a3=>(?_)))))))
 clear q9
 have a5:=a5.mv r0
 refine AA (AG (vI 0) rfl (AA (AG (vI 0) rfl (AE (AC (AF (AF (AB kR (AA (CH U25_ rfl AV rfl a5 fun g0 n7=>(AA (BJ (vs:=[vA g0.toArray]) ET (GB (O:=(a2 :: [])++O) g0 c q8 n7 j2.lt) rfl j2 fun E6 E7 j3 r1 r2 r3=>(?_)))))))))))))
 obtain rfl:=r3
 have a5:=a5.mv r1
 have a3:=a3.keep r2 (by simp)
 refine AA (AG (vI (AL c)) rfl (AE (AC (AF (AB kR (AA (AD (vI (AL c)) rfl (AA (DS .i64 (AL c) (0:Int) rfl rfl (AE (AC (AP ((AL c) != (0:Int)) rfl rfl (fun c9=>?_) (fun c9=>?_)))))))))))))
 ·have B1:AL c≠(0:Int):=by simpa using c9
  refine AF (AB kR (AA (AX (vs:=[vI 0,vI 0,vI 0,nS,nS]) U25_ rfl AV rfl a3 rfl (AA (AD (vI (AL c)) rfl (BE (AS (vs:=[vI 0,vI 0,vI 0,nS,nS]) (.agg #[vI 0,vI 0,vI 0,nS,nS]) rfl rfl rfl AV (fun u hu=>by simp only [List.mem_cons,List.not_mem_nil,or_false] at hu;rcases hu with rfl|rfl|rfl|rfl|rfl <;> rfl) (by repeat (constructor)) a3 oT j3 fun E8 r4 E9 F1 n9=>(AA (AG (vI 0) rfl (AA (AG (vI (AL c)) rfl (AE (AC (AT (BA (BF rfl (GZ rfl (CN (vs:=[vI 0,vI 0,vI 0,nS,nS]) rfl U25_ rfl AV rfl n9 rfl) (CY rfl rfl) (CY rfl rfl)) (?_)))))))))))))))))
  have r5:((BN c day).1)=(⟨(0:Int),(0:Int),(0:Int),[],[]⟩:Circle):=by exact congrArg (fun p=>p.1) (JX aS)
  have r6:((BN c day).2.1)=(0:Int):=by exact congrArg (fun p=>p.2.1) (JX aS)
  have r7:((BN c day).2.2)=(AL c):=by exact congrArg (fun p=>p.2.2) (JX aS)
  exact ⟨_,rfl,r4.keep,by rw [r5,r6,r7];exact ⟨[vI 0,vI 0,vI 0,nS,nS],rfl,Enc.out (B:=(a2 :: [])) ⟨.slice none 0 0, .slice none 0 0,rfl,(BV.nil _ _ _),(BV.nil _ _ _)⟩⟩⟩
 have o0:AL c=(0:Int):=by simpa using c9
 have hrl:=JV o0
 refine AZ (AC (AF (AB kR (AA (BG 4 BR (c.recs) rfl a5 (fun _ _ _ h=>BO h) fun F2 o1=>(AA (CD U23_ rfl rfl o1 fun F3 g1=>(?_))))))))
 have:=g1.len_le
 refine AA (CO U23_ rfl g1 (AA (AG (vI (c.recs.length:Int)) rfl (AE (AC (AF (AB kR (AA (CR (l:=[(2, .const (vI 1))]) pl_47 HH rfl [(2,vI 1,[vI 1])] [vI 0,vI 0,vI 1,nS,nS] rfl ⟨_,rfl,rfl,oT,rfl⟩ (AA (BS [vI 0,vI 0,vI 0,nS,nS] HH rfl j3 fun a4 F4 r8 r9 s1 s2 o2=>(?_))))))))))))
 have c4:CJ a2 a4:=by show a2≠a4;have:=a3.lt;omega
 clear r8
 have a5:=a5.mv s1
 have a3:=a3.keep s2 (by simp)
 refine BE (AS (vs:=[vI 0,vI 0,vI 1,nS,nS]) (.agg #[vI 0,vI 0,vI 1,nS,nS]) rfl rfl rfl DC (fun u hu=>by simp only [List.mem_cons,List.not_mem_nil,or_false] at hu;rcases hu with rfl|rfl|rfl|rfl|rfl <;> rfl) (by repeat (constructor)) o2 oT r9 fun s3 f0 s4 s5 a6=>(?_))
 have a5:=a5.mv s4
 have a3:=a3.keep s5 (AM c4)
 refine AE (AC (AF (AF (AB kR (AA (AD (vI (c.recs.length:Int)) rfl (AA (JD .i64 (c.recs.length:Int) (0:Int) rfl rfl (AE (AC (AP (decide ((0:Int)<(c.recs.length:Int))) rfl rfl (fun d0=>?_) (fun d0=>?_))))))))))))
 ·have B2:(0:Int)<(c.recs.length:Int):=by simpa using d0
  have hlr:FO c=c.recs[c.recs.length - 1]!:=if_pos oM
  refine AB kR (AA (BG 4 BR (c.recs) rfl a5 (fun _ _ _ h=>BO h) fun F5 o3=>(AA (CD U23_ rfl rfl o3 fun F6 g2=>(?_)))))
  have:=g2.len_le
  refine AA (AD (vI (c.recs.length:Int)) rfl (AA (o_sub .i64 (c.recs.length:Int) (1:Int) (((c.recs.length - 1:Nat):Int)) rfl rfl (HR oM oM) (AA (DV U23_ DC .i64 ((c.recs.length - 1:Nat):Int) (c.recs.length - 1) rfl rfl rfl g2 oM fun F7 o4=>(AA (CH U47_ rfl DC rfl o4 fun B3 o5=>(?_))))))))
  obtain ⟨j4,j5,rfl,g3,g4⟩:=o5
  have:=g3.len_le
  have:=g4.len_le
  refine BE (AS (vs:=[vI ((c.recs[c.recs.length - 1]!).no),vI ((c.recs[c.recs.length - 1]!).asked),vI ((c.recs[c.recs.length - 1]!).state),j4,j5]) (.agg #[vI ((c.recs[c.recs.length - 1]!).no),vI ((c.recs[c.recs.length - 1]!).asked),vI ((c.recs[c.recs.length - 1]!).state),j4,j5]) rfl rfl rfl DC (fun u hu=>by simp only [List.mem_cons,List.not_mem_nil,or_false] at hu;rcases hu with rfl|rfl|rfl|rfl|rfl <;> first|rfl|exact g3.oneCell|exact g4.oneCell) (by repeat (constructor)) a6 oT f0 fun s6 j6 s7 s8 a7=>(?_))
  have a5:=a5.mv s7
  have a3:=a3.keep s8 (AM c4)
  refine AE (AC (AF (BX (AF (AB kR (AA (AD (vI day) rfl (AA (AO 1 HM rfl (AA (AR U3_ rfl (vI ((c.recs[c.recs.length - 1]!).asked)) rfl a7 rfl (AA (BJ (vs:=[vI day,vI ((c.recs[c.recs.length - 1]!).asked)]) GX (IB (O:=(a4 :: (a2 :: []))++O) day ((c.recs[c.recs.length - 1]!).asked) s6 j6.lt) rfl j6 fun F8 F9 d1 s9 j7 t0=>(?_))))))))))))))
  obtain rfl:=t0
  have a5:=a5.mv s9
  have a3:=a3.keep j7 (by simp)
  have a7:=a7.keep j7 (by simp)
  refine AA (EI (BI day ((c.recs[c.recs.length - 1]!).asked)) rfl (AA (AG (vO (!(BI day ((c.recs[c.recs.length - 1]!).asked)))) rfl (AE (AC (AP (!(BI day ((c.recs[c.recs.length - 1]!).asked))) rfl rfl (fun d2=>?_) (fun d2=>?_)))))))
  ·have B4:(BI day ((c.recs[c.recs.length - 1]!).asked))=false:=by simpa using d2
   refine AF (AB kR (AA (AX (vs:=[vI 0,vI 0,vI 0,nS,nS]) U25_ rfl AV rfl a3 rfl (BE (AS (vs:=[vI 0,vI 0,vI 0,nS,nS]) (.agg #[vI 0,vI 0,vI 0,nS,nS]) rfl rfl rfl AV (fun u hu=>by simp only [List.mem_cons,List.not_mem_nil,or_false] at hu;rcases hu with rfl|rfl|rfl|rfl|rfl <;> rfl) (by repeat (constructor)) a3 oT d1 fun G0 t1 G1 G2 o6=>(AA (AG (vI 0) rfl (AA (AG (vI 1) rfl (AE (AC (AT (CK (BA (BF rfl (GZ rfl (CN (vs:=[vI 0,vI 0,vI 0,nS,nS]) rfl U25_ rfl AV rfl o6 rfl) (CY rfl rfl) (CY rfl rfl)) (?_))))))))))))))))
   have t2:((BN c day).1)=(⟨(0:Int),(0:Int),(0:Int),[],[]⟩:Circle):=by exact congrArg (fun p=>p.1) (GW aS (by rw [hlr];assumption))
   have t3:((BN c day).2.1)=(0:Int):=by exact congrArg (fun p=>p.2.1) (GW aS (by rw [hlr];assumption))
   have t4:((BN c day).2.2)=(1:Int):=by exact congrArg (fun p=>p.2.2) (GW aS (by rw [hlr];assumption))
   exact ⟨_,rfl,t1.keep,by rw [t2,t3,t4];exact ⟨[vI 0,vI 0,vI 0,nS,nS],rfl,Enc.out (B:=(a4 :: (a2 :: []))) ⟨.slice none 0 0, .slice none 0 0,rfl,(BV.nil _ _ _),(BV.nil _ _ _)⟩⟩⟩
  have B5:(BI day ((c.recs[c.recs.length - 1]!).asked))=true:=by simpa using d2
  refine AF (AB kR (AA (AO 2 EM rfl (AA (AR U3_ rfl (vI ((c.recs[c.recs.length - 1]!).state)) rfl a7 rfl (AA (CS .i64 ((c.recs[c.recs.length - 1]!).state) (0:Int) rfl rfl (AA (AG (vO (((c.recs[c.recs.length - 1]!).state) == (0:Int))) rfl (AE (AC (AP (((c.recs[c.recs.length - 1]!).state) == (0:Int)) rfl rfl (fun d3=>?_) (fun d3=>?_)))))))))))))
  ·have B6:(c.recs[c.recs.length - 1]!).state=(0:Int):=by simpa using d3
   refine AF (AB kR (AA (AX (vs:=[vI 0,vI 0,vI 0,nS,nS]) U25_ rfl AV rfl a3 rfl (BE (AS (vs:=[vI 0,vI 0,vI 0,nS,nS]) (.agg #[vI 0,vI 0,vI 0,nS,nS]) rfl rfl rfl AV (fun u hu=>by simp only [List.mem_cons,List.not_mem_nil,or_false] at hu;rcases hu with rfl|rfl|rfl|rfl|rfl <;> rfl) (by repeat (constructor)) a3 oT d1 fun G3 t5 G4 G5 o7=>(AA (AG (vI 0) rfl (AA (AG (vI 451) rfl (AE (AC (AT (CK (BA (BF rfl (GZ rfl (CN (vs:=[vI 0,vI 0,vI 0,nS,nS]) rfl U25_ rfl AV rfl o7 rfl) (CY rfl rfl) (CY rfl rfl)) (?_))))))))))))))))
   have t6:((BN c day).1)=(⟨(0:Int),(0:Int),(0:Int),[],[]⟩:Circle):=by exact congrArg (fun p=>p.1) (IY aS (by rw [hlr];assumption) (by rw [hlr];assumption))
   have t7:((BN c day).2.1)=(0:Int):=by exact congrArg (fun p=>p.2.1) (IY aS (by rw [hlr];assumption) (by rw [hlr];assumption))
   have t8:((BN c day).2.2)=(451:Int):=by exact congrArg (fun p=>p.2.2) (IY aS (by rw [hlr];assumption) (by rw [hlr];assumption))
   exact ⟨_,rfl,t5.keep,by rw [t6,t7,t8];exact ⟨[vI 0,vI 0,vI 0,nS,nS],rfl,Enc.out (B:=(a4 :: (a2 :: []))) ⟨.slice none 0 0, .slice none 0 0,rfl,(BV.nil _ _ _),(BV.nil _ _ _)⟩⟩⟩
  have B7:(c.recs[c.recs.length - 1]!).state≠(0:Int):=by simpa using d3
  refine AF (AB kR (AA (AD (vI (c.recs.length:Int)) rfl (AA (CS .i64 (c.recs.length:Int) (1024:Int) rfl rfl (AA (AG (vO ((c.recs.length:Int) == (1024:Int))) rfl (AE (AC (AP ((c.recs.length:Int) == (1024:Int)) rfl rfl (fun d4=>?_) (fun d4=>?_)))))))))))
  ·have B8:(c.recs.length:Int)=(1024:Int):=by simpa using d4
   refine AF (AB kR (AA (AX (vs:=[vI 0,vI 0,vI 0,nS,nS]) U25_ rfl AV rfl a3 rfl (BE (AS (vs:=[vI 0,vI 0,vI 0,nS,nS]) (.agg #[vI 0,vI 0,vI 0,nS,nS]) rfl rfl rfl AV (fun u hu=>by simp only [List.mem_cons,List.not_mem_nil,or_false] at hu;rcases hu with rfl|rfl|rfl|rfl|rfl <;> rfl) (by repeat (constructor)) a3 oT d1 fun G6 t9 G7 G8 o8=>(AA (AG (vI 0) rfl (AA (AG (vI 2) rfl (AE (AC (AT (CK (BA (BF rfl (GZ rfl (CN (vs:=[vI 0,vI 0,vI 0,nS,nS]) rfl U25_ rfl AV rfl o8 rfl) (CY rfl rfl) (CY rfl rfl)) (?_))))))))))))))))
   have u0:((BN c day).1)=(⟨(0:Int),(0:Int),(0:Int),[],[]⟩:Circle):=by exact congrArg (fun p=>p.1) (FX aS (by rw [hlr];assumption) (by rw [hlr];assumption) aS)
   have u1:((BN c day).2.1)=(0:Int):=by exact congrArg (fun p=>p.2.1) (FX aS (by rw [hlr];assumption) (by rw [hlr];assumption) aS)
   have u2:((BN c day).2.2)=(2:Int):=by exact congrArg (fun p=>p.2.2) (FX aS (by rw [hlr];assumption) (by rw [hlr];assumption) aS)
   exact ⟨_,rfl,t9.keep,by rw [u0,u1,u2];exact ⟨[vI 0,vI 0,vI 0,nS,nS],rfl,Enc.out (B:=(a4 :: (a2 :: []))) ⟨.slice none 0 0, .slice none 0 0,rfl,(BV.nil _ _ _),(BV.nil _ _ _)⟩⟩⟩
  have B9:(c.recs.length:Int)≠(1024:Int):=by simpa using d4
  refine AZ (BU (AC (AF (AB kR (AA (CH U25_ rfl AV rfl a5 fun C0 o9=>(?_)))))))
  obtain ⟨b0,j8,rfl,a0,g5⟩:=o9
  have:=a0.len_le
  have:=g5.len_le
  refine BE (AS (vs:=[vI c.epoch,vI c.threshold,vI c.wait,b0,j8]) (.agg #[vI c.epoch,vI c.threshold,vI c.wait,b0,j8]) rfl rfl rfl AV (fun u hu=>by simp only [List.mem_cons,List.not_mem_nil,or_false] at hu;rcases hu with rfl|rfl|rfl|rfl|rfl <;> first|rfl|exact a0.oneCell|exact g5.oneCell) (by repeat (constructor)) a3 oT d1 fun u3 j9 k0 u4 a8=>(?_))
  have a5:=a5.mv k0
  have a0:=a0.mv k0
  have a7:=a7.keep u4 (AM (Ne.symm c4))
  refine AE (AC (AF (AB kR (AA (BG 4 BR (c.recs) rfl a5 (fun _ _ _ h=>BO h) fun G9 p0=>(AA (CD U23_ rfl rfl p0 fun f1 c2=>(?_))))))))
  have:=c2.len_le
  refine AA (FY [f1] _ GG rfl (BC 8 Try.func31 rfl rfl oT (fun H0=>AF (AB kR (AA (AG (nS) rfl (AE (AC (AF (AF (AB kR (AA (AD (f1) rfl (AA (HQ U23_ rfl rfl c2 fun d5 k1=>(AE (AC (AP (d5) rfl rfl (fun d6=>?_) (fun d6=>?_)))))))))))))))))) (fun _ _ h=>h))
  ·have C1:d5=true:=by simpa using d6
   refine AF (AB kR (AA (AG (nS) rfl (AE (AC (AT (BA (BF rfl (CU rfl rfl rfl) (?_)))))))))
   have e2:c.recs=[]:=k1 aS
   have C2:BV Enc.recovery u3 ((a4 :: (a2 :: []))++O) (.slice none 0 0) (c.recs):=by rw [e2];exact BV.nil _ _ _
   refine Exists.intro _ (And.intro rfl (AA (AD (vI (c.recs.length:Int)) rfl (AA (AD (vI day) rfl (AA (CR (l:=[(0, .tmp 47),(1, .tmp 48),(2, .const (vI 0))]) pl_47 HH rfl [(0,vI (c.recs.length:Int),[vI (c.recs.length:Int)]),(1,vI day,[vI day]),(2,vI 0,[vI 0])] [vI (c.recs.length:Int),vI day,vI 0,nS,nS] rfl ⟨_,rfl,rfl,oT,⟨_,rfl,rfl,oT,⟨_,rfl,rfl,oT,rfl⟩⟩⟩ (AA (IL (E:=Enc.recovery) (xs:=[.tmp 49]) U23_ DC HH (by decide) [.agg #[vI (c.recs.length:Int),vI day,vI 0,nS,nS]] [[vI (c.recs.length:Int),vI day,vI 0,nS,nS]] [(⟨(c.recs.length:Int),day,(0:Int),[],[]⟩:Recovery)] rfl rfl rfl (Parts.cons rfl ⟨.slice none 0 0, .slice none 0 0,rfl,(BV.nil _ _ _),(BV.nil _ _ _)⟩ (Parts.nil _ _ _)) oT j9 fun H1 H2 u5 u6 k2 g6=>(?_))))))))))
   have a0:=a0.mv u6
   have a8:=a8.keep k2 (by simp)
   have a7:=a7.keep k2 (by simp)
   have:=g6.len_le
   refine AA (DK (v:=.slice none 0 0) (E:=Enc.recovery) (l:=c.recs) (m:=[(⟨(c.recs.length:Int),day,(0:Int),[],[]⟩:Recovery)]) U23_ LE rfl (by decide) rfl rfl (by rw [e2];exact DX.nil Enc.recovery 47 _ _ _) g6 (fun _ hb=>.inl hb) (by intro b hb;simp [Value.ownBlock] at hb) (by simp;omega) (by simp [maxLen];omega) u5 fun b8 H3 k3 C3 g7 e3 u7 u9 v0 b4=>(?_))
   have g8:∀ b,b8.ownBlock=some b→b≠a2:=fun b hb=>by rcases g7 with e1|e1 <;> rw [e1] at hb <;> first|(simp [Value.ownBlock] at hb;done)|(cases hb;have:=a8.lt;omega)
   have C4:∀ b,b8.ownBlock=some b→b≠a4:=fun b hb=>by rcases g7 with e1|e1 <;> rw [e1] at hb <;> first|(simp [Value.ownBlock] at hb;done)|(cases hb;have:=a7.lt;omega)
   have b2:a2∈k3:=e3 a2 (by repeat (constructor))
   have b3:a4∈k3:=e3 a4 (by repeat (constructor))
   have a0:=a0.mv u9
   have a8:=a8.keep v0 (by simp only [Option.mem_toList];(simp [Value.ownBlock];done))
   refine AA (AO 4 BR rfl (BE (BP (b8) rfl rfl b4.oneCell MQ (by repeat (assumption)) a8 oT u7 fun H4 v1 k4 v2 g9=>(?_))))
   have a0:=a0.mv k4
   have b4:=b4.mv k4 v2 (fun b hb=>AM (g8 b hb))
   refine AE (AC (AF (AB kR (AA (AX (vs:=[vI c.epoch,vI c.threshold,vI c.wait,b0,b8]) U25_ rfl AV rfl g9 rfl (AA (AD (vI (c.recs.length:Int)) rfl (BE (AS (vs:=[vI c.epoch,vI c.threshold,vI c.wait,b0,b8]) (.agg #[vI c.epoch,vI c.threshold,vI c.wait,b0,b8]) rfl rfl rfl AV (fun u hu=>by simp only [List.mem_cons,List.not_mem_nil,or_false] at hu;rcases hu with rfl|rfl|rfl|rfl|rfl <;> first|rfl|exact a0.oneCell|exact b4.oneCell) (by repeat (assumption)) g9 oT v1 fun H5 k5 k6 v3 p1=>(?_))))))))))
   have a0:=a0.mv k6
   have b4:=b4.mv k6 v3 (fun b hb=>AM (g8 b hb))
   refine AA (AG (vI (c.recs.length:Int)) rfl (AA (AG (vI 0) rfl (AE (AC (AT (BF rfl (GZ rfl (CN (vs:=[vI c.epoch,vI c.threshold,vI c.wait,b0,b8]) rfl U25_ rfl AV rfl p1 rfl) (CY rfl rfl) (CY rfl rfl)) (?_))))))))
   have v4:((BN c day).1)=(⟨c.epoch,c.threshold,c.wait,c.guardians,c.recs++([(⟨(c.recs.length:Int),day,(0:Int),[],[]⟩:Recovery)])⟩:Circle):=by exact congrArg (fun p=>p.1) (EP aS (by rw [hlr];assumption) (by rw [hlr];assumption) aS)
   have v5:((BN c day).2.1)=(c.recs.length:Int):=by exact congrArg (fun p=>p.2.1) (EP aS (by rw [hlr];assumption) (by rw [hlr];assumption) aS)
   have v6:((BN c day).2.2)=(0:Int):=by exact congrArg (fun p=>p.2.2) (EP aS (by rw [hlr];assumption) (by rw [hlr];assumption) aS)
   exact ⟨_,rfl,k5.keep,by rw [v4,v5,v6];exact ⟨[vI c.epoch,vI c.threshold,vI c.wait,b0,b8],rfl,⟨_,_,rfl,a0.out,(b4.pub k5)⟩⟩⟩
  have C5:d5=false:=by simpa using d6
  refine AZ (AC (AF (AB kR (AA (GJ (E:=Enc.recovery) (xs:=[]) U23_ DC HH (by decide) [] [] [] rfl rfl rfl (Parts.nil _ _ _) oT j9 fun f2 v7 H6 v8 c5 v9 k7 k8 p2=>(?_))))))
  have h0:∀ b,f2.ownBlock=some b→b≠a2:=fun b hb=>by have:=a8.lt;rw [c5] at hb;cases hb;omega
  have h1:∀ b,f2.ownBlock=some b→b≠a4:=fun b hb=>by have:=a7.lt;rw [c5] at hb;cases hb;omega
  have p3:∀ b,f2.ownBlock=some b→b∈(v7 :: (a4 :: (a2 :: []))):=fun b hb=>by rw [c5] at hb;cases hb;simp
  clear v8 c5
  have c2:=c2.mv k7
  have a0:=a0.mv k7
  have a8:=a8.keep k8 (by simp)
  have a7:=a7.keep k8 (by simp)
  refine AA (AD (f1) rfl (AA (DK (E:=Enc.recovery) (l:=[]) (m:=c.recs) U23_ LE rfl (by decide) rfl rfl p2 c2 (fun _ hb=>.inl hb) p3 (by simp;omega) (by simp [maxLen];omega) v9 fun f3 H7 k9 p4 h2 e4 w0 w1 l0 c6=>(?_))))
  rw [List.nil_append] at c6
  have h3:∀ b,f3.ownBlock=some b→b≠a2:=fun b hb=>by rcases h2 with e1|e1 <;> rw [e1] at hb <;> first|(cases hb;have:=a8.lt;omega)|(exact h0 b hb)
  have p5:∀ b,f3.ownBlock=some b→b≠a4:=fun b hb=>by rcases h2 with e1|e1 <;> rw [e1] at hb <;> first|(cases hb;have:=a7.lt;omega)|(exact h1 b hb)
  have b2:a2∈k9:=e4 a2 (by repeat (constructor))
  have b3:a4∈k9:=e4 a4 (by repeat (constructor))
  have a0:=a0.mv w1
  have a8:=a8.keep l0 (by simp only [Option.mem_toList];exact fun e=>absurd rfl (h0 _ e))
  have a7:=a7.keep l0 (by simp only [Option.mem_toList];exact fun e=>absurd rfl (h1 _ e))
  refine AA (AG (f3) rfl (AE (AC (AT (BF rfl (CU rfl rfl rfl) (Exists.intro _ (And.intro rfl (AA (AD (vI (c.recs.length:Int)) rfl (AA (AD (vI day) rfl (AA (CR (l:=[(0, .tmp 47),(1, .tmp 48),(2, .const (vI 0))]) pl_47 HH rfl [(0,vI (c.recs.length:Int),[vI (c.recs.length:Int)]),(1,vI day,[vI day]),(2,vI 0,[vI 0])] [vI (c.recs.length:Int),vI day,vI 0,nS,nS] rfl ⟨_,rfl,rfl,oT,⟨_,rfl,rfl,oT,⟨_,rfl,rfl,oT,rfl⟩⟩⟩ (AA (IL (E:=Enc.recovery) (xs:=[.tmp 49]) U23_ DC HH (by decide) [.agg #[vI (c.recs.length:Int),vI day,vI 0,nS,nS]] [[vI (c.recs.length:Int),vI day,vI 0,nS,nS]] [(⟨(c.recs.length:Int),day,(0:Int),[],[]⟩:Recovery)] rfl rfl rfl (Parts.cons rfl ⟨.slice none 0 0, .slice none 0 0,rfl,(BV.nil _ _ _),(BV.nil _ _ _)⟩ (Parts.nil _ _ _)) oT w0 fun H8 H9 w2 l1 f4 h4=>(?_))))))))))))))))
  have a0:=a0.mv l1
  have c6:=c6.mv l1 f4 (by simp)
  have a8:=a8.keep f4 (by simp)
  have a7:=a7.keep f4 (by simp)
  have:=h4.len_le
  refine AA (DK (E:=Enc.recovery) (l:=c.recs) (m:=[(⟨(c.recs.length:Int),day,(0:Int),[],[]⟩:Recovery)]) U23_ LE rfl (by decide) rfl rfl c6 h4 (fun _ hb=>.inl hb) p4 (by simp;omega) (by simp [maxLen];omega) w2 fun b9 I0 l2 C6 h5 e5 w3 w4 w5 b5=>(?_))
  have h6:∀ b,b9.ownBlock=some b→b≠a2:=fun b hb=>by rcases h5 with e1|e1 <;> rw [e1] at hb <;> first|(cases hb;have:=a8.lt;omega)|(exact h3 b hb)
  have C7:∀ b,b9.ownBlock=some b→b≠a4:=fun b hb=>by rcases h5 with e1|e1 <;> rw [e1] at hb <;> first|(cases hb;have:=a7.lt;omega)|(exact p5 b hb)
  have b2:a2∈l2:=e5 a2 (by repeat (assumption))
  have b3:a4∈l2:=e5 a4 (by repeat (assumption))
  have a0:=a0.mv w4
  have a8:=a8.keep w5 (by simp only [Option.mem_toList];exact fun e=>absurd rfl (h3 _ e))
  refine AA (AO 4 BR rfl (BE (BP (b9) rfl rfl b5.oneCell MQ (by repeat (assumption)) a8 oT w3 fun I1 w6 l3 w7 h7=>(?_))))
  have a0:=a0.mv l3
  have b5:=b5.mv l3 w7 (fun b hb=>AM (h6 b hb))
  refine AE (AC (AF (AB kR (AA (AX (vs:=[vI c.epoch,vI c.threshold,vI c.wait,b0,b9]) U25_ rfl AV rfl h7 rfl (AA (AD (vI (c.recs.length:Int)) rfl (BE (AS (vs:=[vI c.epoch,vI c.threshold,vI c.wait,b0,b9]) (.agg #[vI c.epoch,vI c.threshold,vI c.wait,b0,b9]) rfl rfl rfl AV (fun u hu=>by simp only [List.mem_cons,List.not_mem_nil,or_false] at hu;rcases hu with rfl|rfl|rfl|rfl|rfl <;> first|rfl|exact a0.oneCell|exact b5.oneCell) (by repeat (assumption)) h7 oT w6 fun I2 l4 l5 w8 p6=>(?_))))))))))
  have a0:=a0.mv l5
  have b5:=b5.mv l5 w8 (fun b hb=>AM (h6 b hb))
  refine AA (AG (vI (c.recs.length:Int)) rfl (AA (AG (vI 0) rfl (AE (AC (AT (BF rfl (GZ rfl (CN (vs:=[vI c.epoch,vI c.threshold,vI c.wait,b0,b9]) rfl U25_ rfl AV rfl p6 rfl) (CY rfl rfl) (CY rfl rfl)) (?_))))))))
  have w9:((BN c day).1)=(⟨c.epoch,c.threshold,c.wait,c.guardians,c.recs++([(⟨(c.recs.length:Int),day,(0:Int),[],[]⟩:Recovery)])⟩:Circle):=by exact congrArg (fun p=>p.1) (EP aS (by rw [hlr];assumption) (by rw [hlr];assumption) aS)
  have x1:((BN c day).2.1)=(c.recs.length:Int):=by exact congrArg (fun p=>p.2.1) (EP aS (by rw [hlr];assumption) (by rw [hlr];assumption) aS)
  have x2:((BN c day).2.2)=(0:Int):=by exact congrArg (fun p=>p.2.2) (EP aS (by rw [hlr];assumption) (by rw [hlr];assumption) aS)
  exact ⟨_,rfl,l4.keep,by rw [w9,x1,x2];exact ⟨[vI c.epoch,vI c.threshold,vI c.wait,b0,b9],rfl,⟨_,_,rfl,a0.out,(b5.pub l4)⟩⟩⟩
 have C8:(c.recs.length:Int)≤(0:Int):=by simpa using d0
 have hlr:FO c = ⟨0,0,1,[],[]⟩:=if_neg oM
 refine AZ (AC (AF (BX (AF (AB kR (AA (AD (vI day) rfl (AA (AO 1 HM rfl (AA (AR U3_ rfl (vI 0) rfl a6 rfl (AA (BJ (vs:=[vI day,vI 0]) GX (IB (O:=(a4 :: (a2 :: []))++O) day (0:Int) s3 f0.lt) rfl f0 fun I3 I4 f5 x3 l6 x4=>(?_))))))))))))))
 obtain rfl:=x4
 have a5:=a5.mv x3
 have a3:=a3.keep l6 (by simp)
 have a6:=a6.keep l6 (by simp)
 refine AA (EI (BI day (0:Int)) rfl (AA (AG (vO (!(BI day (0:Int)))) rfl (AE (AC (AP (!(BI day (0:Int))) rfl rfl (fun d7=>?_) (fun d7=>?_)))))))
 ·have C9:(BI day (0:Int))=false:=by simpa using d7
  refine AF (AB kR (AA (AX (vs:=[vI 0,vI 0,vI 0,nS,nS]) U25_ rfl AV rfl a3 rfl (BE (AS (vs:=[vI 0,vI 0,vI 0,nS,nS]) (.agg #[vI 0,vI 0,vI 0,nS,nS]) rfl rfl rfl AV (fun u hu=>by simp only [List.mem_cons,List.not_mem_nil,or_false] at hu;rcases hu with rfl|rfl|rfl|rfl|rfl <;> rfl) (by repeat (constructor)) a3 oT f5 fun I5 x5 I6 I7 p7=>(AA (AG (vI 0) rfl (AA (AG (vI 1) rfl (AE (AC (AT (CK (BA (BF rfl (GZ rfl (CN (vs:=[vI 0,vI 0,vI 0,nS,nS]) rfl U25_ rfl AV rfl p7 rfl) (CY rfl rfl) (CY rfl rfl)) (?_))))))))))))))))
  have x6:((BN c day).1)=(⟨(0:Int),(0:Int),(0:Int),[],[]⟩:Circle):=by exact congrArg (fun p=>p.1) (GW aS (by rw [hlr];assumption))
  have x7:((BN c day).2.1)=(0:Int):=by exact congrArg (fun p=>p.2.1) (GW aS (by rw [hlr];assumption))
  have x8:((BN c day).2.2)=(1:Int):=by exact congrArg (fun p=>p.2.2) (GW aS (by rw [hlr];assumption))
  exact ⟨_,rfl,x5.keep,by rw [x6,x7,x8];exact ⟨[vI 0,vI 0,vI 0,nS,nS],rfl,Enc.out (B:=(a4 :: (a2 :: []))) ⟨.slice none 0 0, .slice none 0 0,rfl,(BV.nil _ _ _),(BV.nil _ _ _)⟩⟩⟩
 have D0:(BI day (0:Int))=true:=by simpa using d7
 refine AF (AB kR (AA (AO 2 EM rfl (AA (AR U3_ rfl (vI 1) rfl a6 rfl (AA (CS .i64 (1:Int) (0:Int) rfl rfl (AA (AG (vO false) rfl (AE (AC (AP false rfl rfl (fun h=>by cases h) (fun _=>AF (AB kR (AA (AD (vI (c.recs.length:Int)) rfl (AA (CS .i64 (c.recs.length:Int) (1024:Int) rfl rfl (AA (AG (vO ((c.recs.length:Int) == (1024:Int))) rfl (AE (AC (AP ((c.recs.length:Int) == (1024:Int)) rfl rfl (fun d8=>?_) (fun d8=>?_))))))))))))))))))))))))
 ·have D1:(c.recs.length:Int)=(1024:Int):=by simpa using d8
  refine AF (AB kR (AA (AX (vs:=[vI 0,vI 0,vI 0,nS,nS]) U25_ rfl AV rfl a3 rfl (BE (AS (vs:=[vI 0,vI 0,vI 0,nS,nS]) (.agg #[vI 0,vI 0,vI 0,nS,nS]) rfl rfl rfl AV (fun u hu=>by simp only [List.mem_cons,List.not_mem_nil,or_false] at hu;rcases hu with rfl|rfl|rfl|rfl|rfl <;> rfl) (by repeat (constructor)) a3 oT f5 fun I8 x9 I9 J0 p8=>(AA (AG (vI 0) rfl (AA (AG (vI 2) rfl (AE (AC (AT (CK (BA (BF rfl (GZ rfl (CN (vs:=[vI 0,vI 0,vI 0,nS,nS]) rfl U25_ rfl AV rfl p8 rfl) (CY rfl rfl) (CY rfl rfl)) (?_))))))))))))))))
  have y0:((BN c day).1)=(⟨(0:Int),(0:Int),(0:Int),[],[]⟩:Circle):=by exact congrArg (fun p=>p.1) (FX aS (by rw [hlr];assumption) (by rw [hlr];decide) aS)
  have y1:((BN c day).2.1)=(0:Int):=by exact congrArg (fun p=>p.2.1) (FX aS (by rw [hlr];assumption) (by rw [hlr];decide) aS)
  have y2:((BN c day).2.2)=(2:Int):=by exact congrArg (fun p=>p.2.2) (FX aS (by rw [hlr];assumption) (by rw [hlr];decide) aS)
  exact ⟨_,rfl,x9.keep,by rw [y0,y1,y2];exact ⟨[vI 0,vI 0,vI 0,nS,nS],rfl,Enc.out (B:=(a4 :: (a2 :: []))) ⟨.slice none 0 0, .slice none 0 0,rfl,(BV.nil _ _ _),(BV.nil _ _ _)⟩⟩⟩
 have D2:(c.recs.length:Int)≠(1024:Int):=by simpa using d8
 refine AZ (BU (AC (AF (AB kR (AA (CH U25_ rfl AV rfl a5 fun D3 p9=>(?_)))))))
 obtain ⟨b1,l7,rfl,a1,h8⟩:=p9
 have:=a1.len_le
 have:=h8.len_le
 refine BE (AS (vs:=[vI c.epoch,vI c.threshold,vI c.wait,b1,l7]) (.agg #[vI c.epoch,vI c.threshold,vI c.wait,b1,l7]) rfl rfl rfl AV (fun u hu=>by simp only [List.mem_cons,List.not_mem_nil,or_false] at hu;rcases hu with rfl|rfl|rfl|rfl|rfl <;> first|rfl|exact a1.oneCell|exact h8.oneCell) (by repeat (constructor)) a3 oT f5 fun y3 l8 l9 y4 a9=>(?_))
 have a5:=a5.mv l9
 have a1:=a1.mv l9
 have a6:=a6.keep y4 (AM (Ne.symm c4))
 refine AE (AC (AF (AB kR (AA (BG 4 BR (c.recs) rfl a5 (fun _ _ _ h=>BO h) fun J1 q0=>(AA (CD U23_ rfl rfl q0 fun f6 c3=>(?_))))))))
 have:=c3.len_le
 refine AA (FY [f6] _ GG rfl (BC 8 Try.func31 rfl rfl oT (fun J2=>AF (AB kR (AA (AG (nS) rfl (AE (AC (AF (AF (AB kR (AA (AD (f6) rfl (AA (HQ U23_ rfl rfl c3 fun d9 m0=>(AE (AC (AP (d9) rfl rfl (fun e0=>?_) (fun e0=>?_)))))))))))))))))) (fun _ _ h=>h))
 ·have D4:d9=true:=by simpa using e0
  refine AF (AB kR (AA (AG (nS) rfl (AE (AC (AT (BA (BF rfl (CU rfl rfl rfl) (?_)))))))))
  have e6:c.recs=[]:=m0 aS
  have D5:BV Enc.recovery y3 ((a4 :: (a2 :: []))++O) (.slice none 0 0) (c.recs):=by rw [e6];exact BV.nil _ _ _
  refine Exists.intro _ (And.intro rfl (AA (AD (vI (c.recs.length:Int)) rfl (AA (AD (vI day) rfl (AA (CR (l:=[(0, .tmp 47),(1, .tmp 48),(2, .const (vI 0))]) pl_47 HH rfl [(0,vI (c.recs.length:Int),[vI (c.recs.length:Int)]),(1,vI day,[vI day]),(2,vI 0,[vI 0])] [vI (c.recs.length:Int),vI day,vI 0,nS,nS] rfl ⟨_,rfl,rfl,oT,⟨_,rfl,rfl,oT,⟨_,rfl,rfl,oT,rfl⟩⟩⟩ (AA (IL (E:=Enc.recovery) (xs:=[.tmp 49]) U23_ DC HH (by decide) [.agg #[vI (c.recs.length:Int),vI day,vI 0,nS,nS]] [[vI (c.recs.length:Int),vI day,vI 0,nS,nS]] [(⟨(c.recs.length:Int),day,(0:Int),[],[]⟩:Recovery)] rfl rfl rfl (Parts.cons rfl ⟨.slice none 0 0, .slice none 0 0,rfl,(BV.nil _ _ _),(BV.nil _ _ _)⟩ (Parts.nil _ _ _)) oT l8 fun J3 J4 y5 y6 m1 h9=>(?_))))))))))
  have a1:=a1.mv y6
  have a9:=a9.keep m1 (by simp)
  have a6:=a6.keep m1 (by simp)
  have:=h9.len_le
  refine AA (DK (v:=.slice none 0 0) (E:=Enc.recovery) (l:=c.recs) (m:=[(⟨(c.recs.length:Int),day,(0:Int),[],[]⟩:Recovery)]) U23_ LE rfl (by decide) rfl rfl (by rw [e6];exact DX.nil Enc.recovery 47 _ _ _) h9 (fun _ hb=>.inl hb) (by intro b hb;simp [Value.ownBlock] at hb) (by simp;omega) (by simp [maxLen];omega) y5 fun c0 J5 m2 D6 i0 e7 y7 y8 y9 b6=>(?_))
  have i1:∀ b,c0.ownBlock=some b→b≠a2:=fun b hb=>by rcases i0 with e1|e1 <;> rw [e1] at hb <;> first|(simp [Value.ownBlock] at hb;done)|(cases hb;have:=a9.lt;omega)
  have D7:∀ b,c0.ownBlock=some b→b≠a4:=fun b hb=>by rcases i0 with e1|e1 <;> rw [e1] at hb <;> first|(simp [Value.ownBlock] at hb;done)|(cases hb;have:=a6.lt;omega)
  have b2:a2∈m2:=e7 a2 (by repeat (constructor))
  have b3:a4∈m2:=e7 a4 (by repeat (constructor))
  have a1:=a1.mv y8
  have a9:=a9.keep y9 (by simp only [Option.mem_toList];(simp [Value.ownBlock];done))
  refine AA (AO 4 BR rfl (BE (BP (c0) rfl rfl b6.oneCell MQ (by repeat (assumption)) a9 oT y7 fun J6 z0 m3 z1 i2=>(?_))))
  have a1:=a1.mv m3
  have b6:=b6.mv m3 z1 (fun b hb=>AM (i1 b hb))
  refine AE (AC (AF (AB kR (AA (AX (vs:=[vI c.epoch,vI c.threshold,vI c.wait,b1,c0]) U25_ rfl AV rfl i2 rfl (AA (AD (vI (c.recs.length:Int)) rfl (BE (AS (vs:=[vI c.epoch,vI c.threshold,vI c.wait,b1,c0]) (.agg #[vI c.epoch,vI c.threshold,vI c.wait,b1,c0]) rfl rfl rfl AV (fun u hu=>by simp only [List.mem_cons,List.not_mem_nil,or_false] at hu;rcases hu with rfl|rfl|rfl|rfl|rfl <;> first|rfl|exact a1.oneCell|exact b6.oneCell) (by repeat (assumption)) i2 oT z0 fun J7 m4 m5 z2 q1=>(?_))))))))))
  have a1:=a1.mv m5
  have b6:=b6.mv m5 z2 (fun b hb=>AM (i1 b hb))
  refine AA (AG (vI (c.recs.length:Int)) rfl (AA (AG (vI 0) rfl (AE (AC (AT (BF rfl (GZ rfl (CN (vs:=[vI c.epoch,vI c.threshold,vI c.wait,b1,c0]) rfl U25_ rfl AV rfl q1 rfl) (CY rfl rfl) (CY rfl rfl)) (?_))))))))
  have z3:((BN c day).1)=(⟨c.epoch,c.threshold,c.wait,c.guardians,c.recs++([(⟨(c.recs.length:Int),day,(0:Int),[],[]⟩:Recovery)])⟩:Circle):=by exact congrArg (fun p=>p.1) (EP aS (by rw [hlr];assumption) (by rw [hlr];decide) aS)
  have z4:((BN c day).2.1)=(c.recs.length:Int):=by exact congrArg (fun p=>p.2.1) (EP aS (by rw [hlr];assumption) (by rw [hlr];decide) aS)
  have z5:((BN c day).2.2)=(0:Int):=by exact congrArg (fun p=>p.2.2) (EP aS (by rw [hlr];assumption) (by rw [hlr];decide) aS)
  exact ⟨_,rfl,m4.keep,by rw [z3,z4,z5];exact ⟨[vI c.epoch,vI c.threshold,vI c.wait,b1,c0],rfl,⟨_,_,rfl,a1.out,(b6.pub m4)⟩⟩⟩
 have D8:d9=false:=by simpa using e0
 refine AZ (AC (AF (AB kR (AA (GJ (E:=Enc.recovery) (xs:=[]) U23_ DC HH (by decide) [] [] [] rfl rfl rfl (Parts.nil _ _ _) oT l8 fun f7 z6 J8 z7 c7 z8 m6 m7 q2=>(?_))))))
 have i3:∀ b,f7.ownBlock=some b→b≠a2:=fun b hb=>by have:=a9.lt;rw [c7] at hb;cases hb;omega
 have i4:∀ b,f7.ownBlock=some b→b≠a4:=fun b hb=>by have:=a6.lt;rw [c7] at hb;cases hb;omega
 have q3:∀ b,f7.ownBlock=some b→b∈(z6 :: (a4 :: (a2 :: []))):=fun b hb=>by rw [c7] at hb;cases hb;simp
 clear z7 c7
 have c3:=c3.mv m6
 have a1:=a1.mv m6
 have a9:=a9.keep m7 (by simp)
 have a6:=a6.keep m7 (by simp)
 refine AA (AD (f6) rfl (AA (DK (E:=Enc.recovery) (l:=[]) (m:=c.recs) U23_ LE rfl (by decide) rfl rfl q2 c3 (fun _ hb=>.inl hb) q3 (by simp;omega) (by simp [maxLen];omega) z8 fun f8 J9 m8 q4 i5 e8 z9 A0 m9 c8=>(?_))))
 rw [List.nil_append] at c8
 have i6:∀ b,f8.ownBlock=some b→b≠a2:=fun b hb=>by rcases i5 with e1|e1 <;> rw [e1] at hb <;> first|(cases hb;have:=a9.lt;omega)|(exact i3 b hb)
 have q5:∀ b,f8.ownBlock=some b→b≠a4:=fun b hb=>by rcases i5 with e1|e1 <;> rw [e1] at hb <;> first|(cases hb;have:=a6.lt;omega)|(exact i4 b hb)
 have b2:a2∈m8:=e8 a2 (by repeat (constructor))
 have b3:a4∈m8:=e8 a4 (by repeat (constructor))
 have a1:=a1.mv A0
 have a9:=a9.keep m9 (by simp only [Option.mem_toList];exact fun e=>absurd rfl (i3 _ e))
 have a6:=a6.keep m9 (by simp only [Option.mem_toList];exact fun e=>absurd rfl (i4 _ e))
 refine AA (AG (f8) rfl (AE (AC (AT (BF rfl (CU rfl rfl rfl) (Exists.intro _ (And.intro rfl (AA (AD (vI (c.recs.length:Int)) rfl (AA (AD (vI day) rfl (AA (CR (l:=[(0, .tmp 47),(1, .tmp 48),(2, .const (vI 0))]) pl_47 HH rfl [(0,vI (c.recs.length:Int),[vI (c.recs.length:Int)]),(1,vI day,[vI day]),(2,vI 0,[vI 0])] [vI (c.recs.length:Int),vI day,vI 0,nS,nS] rfl ⟨_,rfl,rfl,oT,⟨_,rfl,rfl,oT,⟨_,rfl,rfl,oT,rfl⟩⟩⟩ (AA (IL (E:=Enc.recovery) (xs:=[.tmp 49]) U23_ DC HH (by decide) [.agg #[vI (c.recs.length:Int),vI day,vI 0,nS,nS]] [[vI (c.recs.length:Int),vI day,vI 0,nS,nS]] [(⟨(c.recs.length:Int),day,(0:Int),[],[]⟩:Recovery)] rfl rfl rfl (Parts.cons rfl ⟨.slice none 0 0, .slice none 0 0,rfl,(BV.nil _ _ _),(BV.nil _ _ _)⟩ (Parts.nil _ _ _)) oT z9 fun K0 K1 A1 n2 f9 i7=>(?_))))))))))))))))
 have a1:=a1.mv n2
 have c8:=c8.mv n2 f9 (by simp)
 have a9:=a9.keep f9 (by simp)
 have a6:=a6.keep f9 (by simp)
 have:=i7.len_le
 refine AA (DK (E:=Enc.recovery) (l:=c.recs) (m:=[(⟨(c.recs.length:Int),day,(0:Int),[],[]⟩:Recovery)]) U23_ LE rfl (by decide) rfl rfl c8 i7 (fun _ hb=>.inl hb) q4 (by simp;omega) (by simp [maxLen];omega) A1 fun c1 K2 n3 D9 i8 e9 A2 A3 A4 b7=>(?_))
 have i9:∀ b,c1.ownBlock=some b→b≠a2:=fun b hb=>by rcases i8 with e1|e1 <;> rw [e1] at hb <;> first|(cases hb;have:=a9.lt;omega)|(exact i6 b hb)
 have E0:∀ b,c1.ownBlock=some b→b≠a4:=fun b hb=>by rcases i8 with e1|e1 <;> rw [e1] at hb <;> first|(cases hb;have:=a6.lt;omega)|(exact q5 b hb)
 have b2:a2∈n3:=e9 a2 (by repeat (assumption))
 have b3:a4∈n3:=e9 a4 (by repeat (assumption))
 have a1:=a1.mv A3
 have a9:=a9.keep A4 (by simp only [Option.mem_toList];exact fun e=>absurd rfl (i6 _ e))
 refine AA (AO 4 BR rfl (BE (BP (c1) rfl rfl b7.oneCell MQ (by repeat (assumption)) a9 oT A2 fun K3 A5 n4 A6 j0=>(?_))))
 have a1:=a1.mv n4
 have b7:=b7.mv n4 A6 (fun b hb=>AM (i9 b hb))
 refine AE (AC (AF (AB kR (AA (AX (vs:=[vI c.epoch,vI c.threshold,vI c.wait,b1,c1]) U25_ rfl AV rfl j0 rfl (AA (AD (vI (c.recs.length:Int)) rfl (BE (AS (vs:=[vI c.epoch,vI c.threshold,vI c.wait,b1,c1]) (.agg #[vI c.epoch,vI c.threshold,vI c.wait,b1,c1]) rfl rfl rfl AV (fun u hu=>by simp only [List.mem_cons,List.not_mem_nil,or_false] at hu;rcases hu with rfl|rfl|rfl|rfl|rfl <;> first|rfl|exact a1.oneCell|exact b7.oneCell) (by repeat (assumption)) j0 oT A5 fun K4 n5 n6 A7 q6=>(?_))))))))))
 have a1:=a1.mv n6
 have b7:=b7.mv n6 A7 (fun b hb=>AM (i9 b hb))
 refine AA (AG (vI (c.recs.length:Int)) rfl (AA (AG (vI 0) rfl (AE (AC (AT (BF rfl (GZ rfl (CN (vs:=[vI c.epoch,vI c.threshold,vI c.wait,b1,c1]) rfl U25_ rfl AV rfl q6 rfl) (CY rfl rfl) (CY rfl rfl)) (?_))))))))
 have A8:((BN c day).1)=(⟨c.epoch,c.threshold,c.wait,c.guardians,c.recs++([(⟨(c.recs.length:Int),day,(0:Int),[],[]⟩:Recovery)])⟩:Circle):=by exact congrArg (fun p=>p.1) (EP aS (by rw [hlr];assumption) (by rw [hlr];decide) aS)
 have A9:((BN c day).2.1)=(c.recs.length:Int):=by exact congrArg (fun p=>p.2.1) (EP aS (by rw [hlr];assumption) (by rw [hlr];decide) aS)
 have B0:((BN c day).2.2)=(0:Int):=by exact congrArg (fun p=>p.2.2) (EP aS (by rw [hlr];assumption) (by rw [hlr];decide) aS)
 exact ⟨_,rfl,n5.keep,by rw [A8,A9,B0];exact ⟨[vI c.epoch,vI c.threshold,vI c.wait,b1,c1],rfl,⟨_,_,rfl,a1.out,(b7.pub n5)⟩⟩⟩
set_option maxHeartbeats 4000000 in
set_option maxRecDepth 100000 in
theorem c_approved {O:List Nat} (c_cs:List Value) (c:Circle) (r_a:Addr) (r:Recovery) (w:World) (a7:Enc.circle.rd w O c_cs c) (a2:PT Enc.recovery w O (.pointer (some r_a)) r) (hO:∀ b∈O,b<w.heap.size):DA Try.prog 57 [.agg c_cs.toArray, .pointer (some r_a)] w (fun v _=>v = .bool (GM c r)):= by
 have a7:Enc.circle.rd w ([]++O) c_cs c:=a7
 have a2:PT Enc.recovery w ([]++O) (.pointer (some r_a)) r:=a2
 have s0:St w O w []:=St.start hO
 refine CA 29 Try.func57 rfl rfl oT (fun F0=>AF (AB kR (AA (EY (E:=Enc.circle) (vA c_cs.toArray) (c_cs) c rfl rfl a7 s0 fun a8 c6 b8 b9 c7 a1=>(?_)))))
 have a2:=a2.mv b9
 refine AA (AG (vO false) rfl (AE (AC (AF (AB kR (AA (AG (vI 0) rfl (AE (AC (AF (AF (AB kR (AA (BG 3 KG (c.guardians) rfl a1 (fun _ _ _ h=>GE h) fun c8 b4=>(AA (CD U22_ rfl rfl b4 fun a9 a0=>(?_)))))))))))))))))
 have:=a0.len_le
 refine AA (CO U22_ rfl a0 (AA (AD (vI 0) rfl (AE (AC (BX (FH (fun mI FI wI=>∃ (k:Nat) (B:List Nat),k≤c.guardians.length∧mI=c.guardians.length - k∧(∃ F1,FI=II F1 [(1,vP (some r_a)),(2,vP (some a8)),(5,vI ((EE r.approved c.guardians k:Nat):Int)),(9,a9),(10,vI (c.guardians.length:Int)),(11,vI ((k:Nat):Int)),(29,undef)])∧St w O wI B∧PT Enc.recovery wI (B++O) (.pointer (some r_a)) (r)∧PT Enc.circle wI (B++O) (.pointer (some a8)) (c)∧BV Enc.int wI (B++O) (a9) (c.guardians)) (c.guardians.length - (0)) ?_ ?_)))))))
 ·exact ⟨(0),[],oM,rfl,⟨_,BL _ ⟨rfl,rfl,(by rfl),rfl,rfl,(by rfl),rfl,trivial⟩⟩,b8,a2,a1,a0⟩
 intro d5 F c1 hI
 clear a2 a1 a0
 obtain ⟨k,b0,hr0_0,d6,⟨d7,rfl⟩,b1,a2,a1,a0⟩:=hI
 have hcm:=countM_le r.approved c.guardians k
 refine AF (AB kR (AA (DU .i64 ((k:Nat):Int) (c.guardians.length:Int) rfl rfl (AE (AC (AF (AP (decide (((k:Nat):Int)<(c.guardians.length:Int))) rfl rfl (fun a3=>?_) (fun a3=>?_))))))))
 ·have c2:((k:Nat):Int)<(c.guardians.length:Int):=by simpa using a3
  refine AZ (AC (AF (BX (AF (AB kR (AA (DV U22_ IA .i64 ((k:Nat):Int) k rfl rfl rfl a0 oM fun c9 b5=>(AA (BW U3_ rfl rfl b5 (AA (AG (vI (c.guardians[k]!)) rfl (AE (AC (AF (AB kR (AA (AD (vP (some r_a)) rfl (AA (CC r_a rfl (AA (o_field0 DY rfl (AA (BG 3 HF (r.approved) rfl a2 (fun _ _ _ h=>EW h) fun d0 b6=>(AA (CD U22_ rfl rfl b6 fun b2 a6=>(?_))))))))))))))))))))))))))
  have:=a6.len_le
  refine AA (AD (vI (c.guardians[k]!)) rfl (AA (BJ (vs:=[b2,vI (c.guardians[k]!)]) enter_44 (MP (O:=b0++O) b2 r.approved (c.guardians[k]!) c1 a6 b1.lt) rfl b1 fun d1 d2 b3 a5 d3 c0=>(?_))))
  obtain rfl:=c0
  have a2:=a2.mv a5
  have a1:=a1.mv a5
  have a0:=a0.mv a5
  refine AE (AC (AP (r.approved.contains (c.guardians[k]!)) rfl rfl (fun a4=>?_) (fun a4=>?_)))
  ·have c3:(r.approved.contains (c.guardians[k]!))=true:=by simpa using a4
   refine AB kR (AA (AD (vI ((EE r.approved c.guardians k:Nat):Int)) rfl (AA (DQ .i64 ((EE r.approved c.guardians k:Nat):Int) (1:Int) (((EE r.approved c.guardians k+1:Nat):Int)) rfl rfl (HR oM oM) (AA (AG (vI ((EE r.approved c.guardians k+1:Nat):Int)) rfl (AE (BU (AC (AB kR (AA (DQ .i64 ((k:Nat):Int) (1:Int) (((k+1:Nat):Int)) rfl rfl (HR oM oM) (AA (AD (vI ((k+1:Nat):Int)) rfl (AE (AC (?_)))))))))))))))))
   exact ⟨_,oM,(k+1),b0,oM,rfl,⟨_,BL _ ⟨rfl,rfl,(by exact congrArg (Value.int _) (by ((rw [KX oM,if_pos aS])))),rfl,rfl,(by rfl),rfl,trivial⟩⟩,b3,a2,a1,a0⟩
  have c4:(r.approved.contains (c.guardians[k]!))=false:=by simpa using a4
  refine AZ (BU (AC (AB kR (AA (DQ .i64 ((k:Nat):Int) (1:Int) (((k+1:Nat):Int)) rfl rfl (HR oM oM) (AA (AD (vI ((k+1:Nat):Int)) rfl (AE (AC (?_))))))))))
  exact ⟨_,oM,(k+1),b0,oM,rfl,⟨_,BL _ ⟨rfl,rfl,(by exact congrArg (Value.int _) (by ((rw [KX oM,if_neg (by rw [Bool.not_eq_true];assumption)];try rfl)))),rfl,rfl,(by rfl),rfl,trivial⟩⟩,b3,a2,a1,a0⟩
 have c5:(c.guardians.length:Int)≤((k:Nat):Int):=by simpa using a3
 obtain rfl:k=c.guardians.length:=by omega
 refine EX (CV (CV (EB (AC (AF (AB kR (AA (AD (vI ((EE r.approved c.guardians c.guardians.length:Nat):Int)) rfl (AA (BG 1 f_25_1 (c.threshold) rfl a1 (fun _ _ _ h=>HK h) fun d4 b7=>(AA (BW U3_ rfl rfl b7 (AA (IE .i64 ((EE r.approved c.guardians c.guardians.length:Nat):Int) c.threshold rfl rfl (AA (AG (vO (decide (c.threshold≤((EE r.approved c.guardians c.guardians.length:Nat):Int)))) rfl (AE (AC (AT (BF rfl (CU rfl rfl rfl) (?_)))))))))))))))))))))
 have e:(GM c r)=(decide (c.threshold≤((EE r.approved c.guardians c.guardians.length:Nat):Int))):=rfl
 exact ⟨_,rfl,b1.keep,(by exact congrArg vO e.symm)⟩
open Go.Fw Go.RowKit
set_option maxHeartbeats 4000000 in
set_option maxRecDepth 100000 in
theorem HJ {O B:List Nat} {w0 w:World} (e:Int) (x0 x1:Nat) (s0:St w0 O w B) (h0:EQ w x0 25 [vI 0,vI 0,vI 0,nS,nS]) (h1:EQ w x1 28 [vI 0]) (f9:x0∈B) (g0:x1∈B) (hne:x0≠x1):CallsD Try.prog 59 [vP (some ⟨x0,0,none⟩),vP (some ⟨x1,0,none⟩)].toArray (.panicking [{ v:=.iface 78 (.agg #[vI e]),recovered:=false }]) w (fun e_ u_ w_=>u_=MT (.panicking [{ v:=.iface 78 (.agg #[vI e]),recovered:=false }])∧∃ v,e_ = .returned v∧St w0 O w_ B∧Mv B w B w_∧Keep [x0,x1] w w_∧EQ w_ x0 25 [vI 0,vI 0,vI 0,nS,nS]∧EQ w_ x1 28 [vI e]):= by
  have ms:Mv B w B w:=Mv.refl _ _
  have ks:Keep [x0,x1] w w:=Keep.refl _ _
  refine LW 19 (.panicking [{ v:=.iface 78 (.agg #[vI e]),recovered:=false }]) Try.func59 rfl rfl oT rfl rfl (fun F0=>AF (AB kR (AA (AD (Value.iface 78 (vA #[vI e])) rfl (AA (o_neqNil U20_ rfl (AE (AC (AP true rfl rfl (fun _=>AF (AB kR (AA (AD (Value.iface 78 (vA #[vI e])) rfl (AA (o_assertOk U78_ rfl rfl (AA (AD (vT #[vA #[vI e],vO true]) rfl (AA (AJ (vA #[vI e]) rfl rfl (AA (AJ (vO true) rfl rfl (AA (BS [vI 0] LV rfl s0 fun a1 g1 d1 d2 d3 b7 c6=>(?_))))))))))))))) (fun h=>by cases h))))))))))
  have d0:w.heap.size≤a1:=by have:=ks.size;omega
  have a8:x0≠a1:=by have:=h0.lt;omega
  have a9:x1≠a1:=by have:=h1.lt;omega
  clear d1
  have h0:=h0.keep b7 (by simp)
  have h1:=h1.keep b7 (by simp)
  have ms:=ms.trans d3
  have ks:=ks.step0 b7 (fun b hb=>by (simp at hb;done))
  refine BE (AS (vs:=[vI e]) (.agg #[vI e]) rfl rfl rfl s_78 (fun u hu=>by simp only [List.mem_cons,List.not_mem_nil,or_false] at hu;rcases hu with rfl <;> rfl) (by repeat (constructor)) c6 oT d2 fun a2 a4 d4 b8 a0=>(?_))
  have h0:=h0.keep b8 (AM a8)
  have h1:=h1.keep b8 (AM a9)
  have ms:=ms.trans d4
  have ks:=ks.step0 b8 (fun b hb=>by (simp only [List.mem_singleton] at hb;subst hb;(right;omega)))
  refine AA (AG (vO true) rfl (AE (AC (AF (AF (AB kR (AA (AD (vO true) rfl (AA (EI true rfl (AE (AC (AP false rfl rfl (fun h=>by cases h) (fun _=>AZ (AC (cw_drawL 3 [1,2] _ _ _ [EF (vA #[vI 0,vI 0,vI 0,nS,nS]),EF (vP (some ⟨a1,0,none⟩)),EF (vI e)] kR kR kR kR (by decide) rfl rfl rfl ⟨kI,kI,kI,trivial⟩ ⟨?_,?_,?_,trivial⟩ ?_ ?_))))))))))))))))
  · intro F1 w1 k1 hf hd
    have k0:=(Keep.drew [] a2).trans k1
    have s1:=a4.call k0
    have m1:Mv (a1 :: B) a2 (a1 :: B) w1:=Mv.of_keep k0
    obtain ⟨F2,rfl⟩:=BB (F:=F1) [] trivial
    exact AW rfl ((CR (l:=[]) NC EZ rfl [] [vI 0,vI 0,vI 0,nS,nS] rfl rfl (⟨(Keep.refl _ _),rfl⟩)))
  · intro F1 w1 k1 hf hd
    have k0:=(Keep.drew [] a2).trans k1
    have s1:=a4.call k0
    have m1:Mv (a1 :: B) a2 (a1 :: B) w1:=Mv.of_keep k0
    have a0:=a0.keep k0 (by simp)
    obtain ⟨F2,rfl⟩:=BB (F:=F1) [(3,vP (some ⟨a1,0,none⟩))] ⟨hf 3 kR,trivial⟩
    exact AW rfl ((AO 0 f_78_0 rfl (⟨(Keep.refl _ _),rfl⟩)))
  · intro F1 w1 k1 hf hd
    have k0:=(Keep.drew [] a2).trans k1
    have s1:=a4.call k0
    have m1:Mv (a1 :: B) a2 (a1 :: B) w1:=Mv.of_keep k0
    have a0:=a0.keep k0 (by simp)
    obtain ⟨F2,rfl⟩:=BB (F:=F1) [(17,vP (some ⟨a1,0,none⟩))] ⟨hd 1 17 kR,trivial⟩
    exact AW rfl ((AR U28_ rfl (vI e) rfl a0 rfl (⟨(Keep.refl _ _),rfl⟩)))
  · intro d5 d6 a5 b2 b0
    have d7:=a4.call a5
    have d8:Mv (a1 :: B) a2 (a1 :: B) d6:=Mv.of_keep a5
    have h0:=h0.keep a5 (by simp)
    have h1:=h1.keep a5 (by simp)
    have a0:=a0.keep a5 (by simp)
    have ms:=ms.trans d8
    have ks:=ks.step0 a5 (fun b hb=>by (simp at hb;done))
    obtain ⟨F2,rfl⟩:=BB (F:=d5) [(0,vP (some ⟨x0,0,none⟩)),(1,vP (some ⟨x1,0,none⟩)),(19,undef),(16,vA #[vI 0,vI 0,vI 0,nS,nS]),(18,vI e)] ⟨b0 0 kR,b0 1 kR,b0 19 kR,b2 0 16 kR (by decide),b2 2 18 kR (by decide),trivial⟩
    clear b2 b0
    refine BE (AS (vs:=[vI 0,vI 0,vI 0,nS,nS]) (.agg #[vI 0,vI 0,vI 0,nS,nS]) rfl rfl rfl AV (fun u hu=>by simp only [List.mem_cons,List.not_mem_nil,or_false] at hu;rcases hu with rfl|rfl|rfl|rfl|rfl <;> rfl) rC h0 oT d7 fun g2 d9 e0 b9 b3=>(?_))
    have h1:=h1.keep b9 (AM (Ne.symm hne))
    have a0:=a0.keep b9 (AM (Ne.symm a8))
    have ms:=ms.trans e0
    have ks:=ks.step0 b9 (fun b hb=>by (simp only [List.mem_singleton] at hb;subst hb;(left;simp [Value.ownBlock];done)))
    refine BE (BP (vI e) rfl rfl rfl IH rC h1 oT d9 fun g3 e1 e2 c0 c7=>(?_))
    have b3:=b3.keep c0 (AM hne)
    have a0:=a0.keep c0 (AM (Ne.symm a9))
    have ms:=ms.trans e2
    have ks:=ks.step0 c0 (fun b hb=>by (simp only [List.mem_singleton] at hb;subst hb;(left;simp [Value.ownBlock];done)))
    refine AE (DF rfl (EN rfl) (?_))
    exact ⟨_,rfl,e1.drop (fun b hb=>rC),ms.trans (Mv.drop (fun b hb=>rC)),ks,b3,c7⟩
  intro cx_ hcx_
  match cx_,hcx_ with
  | 0,_=>
    intro e3 e4 a6 c5 a3
    have e5:=a4.call a6
    have e6:Mv (a1 :: B) a2 (a1 :: B) e4:=Mv.of_keep a6
    have h0:=h0.keep a6 (by simp)
    have h1:=h1.keep a6 (by simp)
    have a0:=a0.keep a6 (by simp)
    have ms:=ms.trans e6
    have ks:=ks.step0 a6 (fun b hb=>by (simp at hb;done))
    obtain ⟨F2,rfl⟩:=BB (F:=e3) [(0,vP (some ⟨x0,0,none⟩)),(1,vP (some ⟨x1,0,none⟩)),(3,vP (some ⟨a1,0,none⟩)),(19,undef),(16,vA #[vI 0,vI 0,vI 0,nS,nS])] ⟨a3 0 kR,a3 1 kR,a3 3 kR,a3 19 kR,c5 0 16 kR (by decide) (by decide),trivial⟩
    clear c5 a3
    refine BE (AS (vs:=[vI 0,vI 0,vI 0,nS,nS]) (.agg #[vI 0,vI 0,vI 0,nS,nS]) rfl rfl rfl AV (fun u hu=>by simp only [List.mem_cons,List.not_mem_nil,or_false] at hu;rcases hu with rfl|rfl|rfl|rfl|rfl <;> rfl) rC h0 oT e5 fun g4 e7 e8 c1 b4=>(?_))
    have h1:=h1.keep c1 (AM (Ne.symm hne))
    have a0:=a0.keep c1 (AM (Ne.symm a8))
    have ms:=ms.trans e8
    have ks:=ks.step0 c1 (fun b hb=>by (simp only [List.mem_singleton] at hb;subst hb;(left;simp [Value.ownBlock];done)))
    refine AA (AO 0 f_78_0 rfl (AA (AR U28_ rfl (vI e) rfl a0 rfl (BE (BP (vI e) rfl rfl rfl IH rC h1 oT e7 fun g5 e9 f0 c2 c8=>(?_))))))
    have b4:=b4.keep c2 (AM hne)
    have a0:=a0.keep c2 (AM (Ne.symm a9))
    have ms:=ms.trans f0
    have ks:=ks.step0 c2 (fun b hb=>by (simp only [List.mem_singleton] at hb;subst hb;(left;simp [Value.ownBlock];done)))
    refine AE (DF rfl (EN rfl) (?_))
    exact ⟨_,rfl,e9.drop (fun b hb=>rC),ms.trans (Mv.drop (fun b hb=>rC)),ks,b4,c8⟩
  | 1,_=>
    intro f1 f2 a7 b5 b1
    have f3:=a4.call a7
    have f4:Mv (a1 :: B) a2 (a1 :: B) f2:=Mv.of_keep a7
    have h0:=h0.keep a7 (by simp)
    have h1:=h1.keep a7 (by simp)
    have a0:=a0.keep a7 (by simp)
    have ms:=ms.trans f4
    have ks:=ks.step0 a7 (fun b hb=>by (simp at hb;done))
    obtain ⟨F2,rfl⟩:=BB (F:=f1) [(0,vP (some ⟨x0,0,none⟩)),(1,vP (some ⟨x1,0,none⟩)),(19,undef),(16,vA #[vI 0,vI 0,vI 0,nS,nS]),(17,vP (some ⟨a1,0,none⟩))] ⟨b1 0 kR,b1 1 kR,b1 19 kR,b5 0 16 kR (by decide) (by decide),b5 1 17 kR (by decide) (by decide),trivial⟩
    clear b5 b1
    refine BE (AS (vs:=[vI 0,vI 0,vI 0,nS,nS]) (.agg #[vI 0,vI 0,vI 0,nS,nS]) rfl rfl rfl AV (fun u hu=>by simp only [List.mem_cons,List.not_mem_nil,or_false] at hu;rcases hu with rfl|rfl|rfl|rfl|rfl <;> rfl) rC h0 oT f3 fun g6 f5 f6 c3 b6=>(?_))
    have h1:=h1.keep c3 (AM (Ne.symm hne))
    have a0:=a0.keep c3 (AM (Ne.symm a8))
    have ms:=ms.trans f6
    have ks:=ks.step0 c3 (fun b hb=>by (simp only [List.mem_singleton] at hb;subst hb;(left;simp [Value.ownBlock];done)))
    refine AA (AR U28_ rfl (vI e) rfl a0 rfl (BE (BP (vI e) rfl rfl rfl IH rC h1 oT f5 fun g7 f7 f8 c4 c9=>(?_))))
    have b6:=b6.keep c4 (AM hne)
    have a0:=a0.keep c4 (AM (Ne.symm a9))
    have ms:=ms.trans f8
    have ks:=ks.step0 c4 (fun b hb=>by (simp only [List.mem_singleton] at hb;subst hb;(left;simp [Value.ownBlock];done)))
    refine AE (DF rfl (EN rfl) (?_))
    exact ⟨_,rfl,f7.drop (fun b hb=>rC),ms.trans (Mv.drop (fun b hb=>rC)),ks,b6,c9⟩
open Go.Fw Go.RowKit
set_option maxHeartbeats 4000000 in
set_option maxRecDepth 100000 in
theorem c_veto {O:List Nat} (c_cs:List Value) (c:Circle) (no:Int) (day:Int) (w:World) (r9:Enc.circle.rd w O c_cs c) (hO:∀ b∈O,b<w.heap.size):DA Try.prog 20 [.agg c_cs.toArray,vI no,vI day] w (fun v w'=>∃ (x0:List Value),v = .tuple #[.agg x0.toArray,vI ((AK c no (BH day)).2)]∧Enc.circle.rd w' (O) x0 ((AK c no (BH day)).1)):= by
 have r9:Enc.circle.rd w ([]++O) c_cs c:=r9
 have s0:St w O w []:=St.start hO
 refine CA 14 Try.func20 rfl rfl oT (fun F0=>AF (AB kR (AA (EY (E:=Enc.circle) (vA c_cs.toArray) (c_cs) c rfl rfl r9 s0 fun N6 N7 D3 N8 N9 g2=>(AA (EY (E:=Enc.int) (vI day) ([vI day]) day rfl rfl rfl D3 fun d0 O0 D4 D5 O1 b3=>(?_)))))))
 have g2:=g2.mv D5
 refine AA (BS [vI 0,vI 0,vI 0,nS,nS] EZ rfl D4 fun b5 O2 D6 D7 s2 O3 a0=>(?_))
 clear D6
 have g2:=g2.mv s2
 have b3:=b3.mv s2
 refine AA (AG (vI 0) rfl (AE (AC (AF (AB kR (AA (CH U25_ rfl AV rfl g2 fun k5 w3=>(AA (AD (vI no) rfl (AA (DN (first:=[]) (captured:=[.tmp 5]) [] [vP (some d0)] rfl rfl (AA (DO [vA k5.toArray,vI no,vN (.func 49) #[] #[vP (some d0)]] MC rfl (IC 51 Try.func37 rfl rfl oT (fun O4=>AF (AB kR (AA (EY (E:=Enc.circle) (vA k5.toArray) (k5) c rfl rfl w3 D7 fun O5 O6 D8 D9 E0 a8=>(?_)))))))))))))))))))
 have b3:=b3.mv D9
 have a0:=a0.keep E0 (by simp)
 refine AA (BS [vI 0,vI 0,vI 0,nS,nS] EZ rfl D8 fun a6 O7 E1 E2 s3 E3 a7=>(?_))
 have c3:CJ b5 a6:=by show b5≠a6;have:=a0.lt;omega
 clear E1
 have b3:=b3.mv s3
 have a8:=a8.mv s3
 have a0:=a0.keep E3 (by simp)
 refine AA (BS [vI 0] z_28 rfl E2 fun a9 E4 E5 s4 s5 s6 a1=>(?_))
 have e6:CJ b5 a9:=by show b5≠a9;have:=a0.lt;omega
 have c1:CJ a6 a9:=by show a6≠a9;have:=a7.lt;omega
 clear E5
 have b3:=b3.mv s5
 have a8:=a8.mv s5
 have a0:=a0.keep s6 (by simp)
 have a7:=a7.keep s6 (by simp)
 refine AE (AC (AF (AF (AB kR (AA (CH U25_ rfl AV rfl a8 fun p9 w4=>(AA (BJ (vs:=[vA p9.toArray]) ET (GB (O:=(a9 :: (a6 :: (b5 :: [])))++O) p9 c E4 w4 s4.lt) rfl s4 fun O8 O9 k6 s7 p3 E6=>(?_)))))))))
 obtain rfl:=E6
 have b3:=b3.mv s7
 have a8:=a8.mv s7
 have a0:=a0.keep p3 (by simp)
 have a7:=a7.keep p3 (by simp)
 have a1:=a1.keep p3 (by simp)
 refine AA (AG (vI (AL c)) rfl (AE (AC (AF (AB kR (AA (AD (vI (AL c)) rfl (AA (DS .i64 (AL c) (0:Int) rfl rfl (AE (AC (AP ((AL c) != (0:Int)) rfl rfl (fun k7=>?_) (fun k7=>?_)))))))))))))
 ·have H5:AL c≠(0:Int):=by simpa using k7
  refine AF (AB kR (AA (AX (vs:=[vI 0,vI 0,vI 0,nS,nS]) U25_ rfl AV rfl a7 rfl (AA (AD (vI (AL c)) rfl (BE (AS (vs:=[vI 0,vI 0,vI 0,nS,nS]) (.agg #[vI 0,vI 0,vI 0,nS,nS]) rfl rfl rfl AV (fun u hu=>by simp only [List.mem_cons,List.not_mem_nil,or_false] at hu;rcases hu with rfl|rfl|rfl|rfl|rfl <;> rfl) (by repeat (constructor)) a7 oT k6 fun P0 E7 P1 s8 k8=>(?_))))))))
  have a0:=a0.keep s8 (AM c3)
  have a1:=a1.keep s8 (AM (Ne.symm c1))
  refine BE (BP (vI (AL c)) rfl rfl rfl IH (by repeat (constructor)) a1 oT E7 fun P2 E8 P3 s9 w5=>(?_))
  have a0:=a0.keep s9 (AM e6)
  have k8:=k8.keep s9 (AM c1)
  refine AE (AC (AT (BA (ID rfl (BY rfl (CN (vs:=[vI 0,vI 0,vI 0,nS,nS]) rfl U25_ rfl AV rfl k8 rfl) (GK rfl U28_ rfl rfl w5 rfl)) (BQ (AA (AJ (vA #[vI 0,vI 0,vI 0,nS,nS]) rfl rfl (AA (AJ (vI (AL c)) rfl rfl (BE (AS (vs:=[vI 0,vI 0,vI 0,nS,nS]) (.agg #[vI 0,vI 0,vI 0,nS,nS]) rfl rfl rfl AV (fun u hu=>by simp only [List.mem_cons,List.not_mem_nil,or_false] at hu;rcases hu with rfl|rfl|rfl|rfl|rfl <;> rfl) (by repeat (constructor)) a0 oT E8 fun P4 E9 P5 P6 w6=>(AA (AG (vI (AL c)) rfl (AE (AC (AT (BF rfl (BY rfl (CN (vs:=[vI 0,vI 0,vI 0,nS,nS]) rfl U25_ rfl AV rfl w6 rfl) (CY rfl rfl)) (?_))))))))))))))))))
  have F3:((AK c no (BH day)).1)=(⟨(0:Int),(0:Int),(0:Int),[],[]⟩:Circle):=by exact congrArg (fun p=>p.1) (show AK c no (BH day)=_ from veto_bad aS)
  have F4:((AK c no (BH day)).2)=(AL c):=by exact congrArg (fun p=>p.2) (show AK c no (BH day)=_ from veto_bad aS)
  exact ⟨_,rfl,E9.keep,by rw [F3,F4];exact ⟨[vI 0,vI 0,vI 0,nS,nS],rfl,Enc.out (B:=(a9 :: (a6 :: (b5 :: [])))) ⟨.slice none 0 0, .slice none 0 0,rfl,(BV.nil _ _ _),(BV.nil _ _ _)⟩⟩⟩
 have w7:AL c=(0:Int):=by simpa using k7
 have hok:AL c=0:=w7
 have hrl:=JV hok
 refine AZ (AC (AF (AF (AB kR (AA (AD (vI no) rfl (AA (DU .i64 no (0:Int) rfl rfl (AA (AD (vO (decide (no<(0:Int)))) rfl (?_)))))))))))
 cases q0:(decide (no<(0:Int)))
 ·have H6:(0:Int)≤no:=by simpa using q0
  refine AQ rfl (AD (vI no) rfl (AQ rfl (BG 4 BR (c.recs) rfl a8 (fun _ _ _ h=>BO h) fun P7 w8=>(AQ rfl (CD U23_ rfl rfl w8 fun P8 q1=>(?_))))))
  have:=q1.len_le
  refine AQ rfl (CO U23_ rfl q1 (AQ rfl (IE .i64 no (c.recs.length:Int) rfl rfl (AA (BM (vO (decide ((c.recs.length:Int)≤no))) rfl rfl (AE (AC (AP (decide ((c.recs.length:Int)≤no)) rfl rfl (fun k9=>?_) (fun k9=>?_)))))))))
  ·have H7:(c.recs.length:Int)≤no:=by simpa using k9
   refine AF (AB kR (AA (AX (vs:=[vI 0,vI 0,vI 0,nS,nS]) U25_ rfl AV rfl a7 rfl (BE (AS (vs:=[vI 0,vI 0,vI 0,nS,nS]) (.agg #[vI 0,vI 0,vI 0,nS,nS]) rfl rfl rfl AV (fun u hu=>by simp only [List.mem_cons,List.not_mem_nil,or_false] at hu;rcases hu with rfl|rfl|rfl|rfl|rfl <;> rfl) (by repeat (constructor)) a7 oT k6 fun P9 F5 Q0 t0 l0=>(?_))))))
   have a0:=a0.keep t0 (AM c3)
   have a1:=a1.keep t0 (AM (Ne.symm c1))
   refine BE (BP (vI 1) rfl rfl rfl IH (by repeat (constructor)) a1 oT F5 fun Q1 F6 Q2 t1 w9=>(?_))
   have a0:=a0.keep t1 (AM e6)
   have l0:=l0.keep t1 (AM c1)
   refine AE (AC (AT (BA (ID rfl (BY rfl (CN (vs:=[vI 0,vI 0,vI 0,nS,nS]) rfl U25_ rfl AV rfl l0 rfl) (GK rfl U28_ rfl rfl w9 rfl)) (BQ (AA (AJ (vA #[vI 0,vI 0,vI 0,nS,nS]) rfl rfl (AA (AJ (vI 1) rfl rfl (BE (AS (vs:=[vI 0,vI 0,vI 0,nS,nS]) (.agg #[vI 0,vI 0,vI 0,nS,nS]) rfl rfl rfl AV (fun u hu=>by simp only [List.mem_cons,List.not_mem_nil,or_false] at hu;rcases hu with rfl|rfl|rfl|rfl|rfl <;> rfl) (by repeat (constructor)) a0 oT F6 fun Q3 F7 Q4 Q5 x1=>(AA (AG (vI 1) rfl (AE (AC (AT (BF rfl (BY rfl (CN (vs:=[vI 0,vI 0,vI 0,nS,nS]) rfl U25_ rfl AV rfl x1 rfl) (CY rfl rfl)) (?_))))))))))))))))))
   have F8:((AK c no (BH day)).1)=(⟨(0:Int),(0:Int),(0:Int),[],[]⟩:Circle):=by exact congrArg (fun p=>p.1) (show AK c no (BH day)=_ from LL hok oM)
   have F9:((AK c no (BH day)).2)=(1:Int):=by exact congrArg (fun p=>p.2) (show AK c no (BH day)=_ from LL hok oM)
   exact ⟨_,rfl,F7.keep,by rw [F8,F9];exact ⟨[vI 0,vI 0,vI 0,nS,nS],rfl,Enc.out (B:=(a9 :: (a6 :: (b5 :: [])))) ⟨.slice none 0 0, .slice none 0 0,rfl,(BV.nil _ _ _),(BV.nil _ _ _)⟩⟩⟩
  have H8:no<(c.recs.length:Int):=by simpa using k9
  refine AZ (AC (AF (LP [vP (some ⟨a6,0,none⟩),vP (some ⟨a9,0,none⟩)] rfl rfl rfl rfl (AC (AF (AB kR (AA (BG 4 BR (c.recs) rfl a8 (fun _ _ _ h=>BO h) fun Q6 x2=>(AA (CD U23_ rfl rfl x2 fun Q7 q2=>(?_)))))))))))
  have:=q2.len_le
  refine AA (AD (vI no) rfl (AA (DV U23_ DC .i64 no no.toNat rfl rfl oM q2 oM fun Q8 x3=>(AA (CH U47_ rfl DC rfl x3 fun H9 x4=>(?_))))))
  obtain ⟨d7,f1,rfl,a5,b6⟩:=x4
  have:=a5.len_le
  have:=b6.len_le
  refine AA (CR (l:=[(0, .tmp 31)]) pl_74 z_74 rfl [(0,vA #[vI ((c.recs[no.toNat]!).no),vI ((c.recs[no.toNat]!).asked),vI ((c.recs[no.toNat]!).state),d7,f1],[vI ((c.recs[no.toNat]!).no),vI ((c.recs[no.toNat]!).asked),vI ((c.recs[no.toNat]!).state),d7,f1])] [vI ((c.recs[no.toNat]!).no),vI ((c.recs[no.toNat]!).asked),vI ((c.recs[no.toNat]!).state),d7,f1] rfl ⟨_,rfl,rfl,oT,rfl⟩ (AA (NG (vA #[vI ((c.recs[no.toNat]!).no),vI ((c.recs[no.toNat]!).asked),vI ((c.recs[no.toNat]!).state),d7,f1]) [vI ((c.recs[no.toNat]!).no),vI ((c.recs[no.toNat]!).asked),vI ((c.recs[no.toNat]!).state),d7,f1] rfl rfl k6 fun a2 Q9 G0 G1 l1 p4 b0=>(?_))))
  have q3:CJ b5 a2:=by show b5≠a2;have:=a0.lt;omega
  have e3:CJ a6 a2:=by show a6≠a2;have:=a7.lt;omega
  have m8:CJ a9 a2:=by show a9≠a2;have:=a1.lt;omega
  clear G0
  have b3:=b3.mv l1
  have a8:=a8.mv l1
  have a5:=a5.mv l1
  have b6:=b6.mv l1
  have a0:=a0.keep p4 (by simp)
  have a7:=a7.keep p4 (by simp)
  have a1:=a1.keep p4 (by simp)
  refine AA (AG (vP (some ⟨a2,0,none⟩)) rfl (AE (AC (AF (AB kR (AA (AD (vN (.func 49) #[] #[vP (some d0)]) rfl (AA (AD (vP (some ⟨a2,0,none⟩)) rfl (AA (EO [] [vP (some d0)] [vP (some ⟨a2,0,none⟩)] enter_49 rfl rfl (BC 18 Try.func49 rfl rfl oT (fun I0=>AF (AB kR (AA (NG (vP (some ⟨a2,0,none⟩)) [vP (some ⟨a2,0,none⟩)] rfl rfl G1 fun a3 e7 x5 q4 h7 h8 a4=>(?_)))))))))))))))))
  have G2:CJ b5 a3:=by show b5≠a3;have:=a0.lt;omega
  have m9:CJ a6 a3:=by show a6≠a3;have:=a7.lt;omega
  have G3:CJ a9 a3:=by show a9≠a3;have:=a1.lt;omega
  have n2:CJ a2 a3:=by show a2≠a3;have:=b0.lt;omega
  clear x5
  have b3:=b3.mv h7
  have a8:=a8.mv h7
  have a5:=a5.mv h7
  have b6:=b6.mv h7
  have a0:=a0.keep h8 (by simp)
  have a7:=a7.keep h8 (by simp)
  have a1:=a1.keep h8 (by simp)
  have b0:=b0.keep h8 (by simp)
  refine AE (AC (AF (cw_draw' 8 _ _ [EF (vP (some ⟨a2,0,none⟩)),EF (vI day),EF (vP (some ⟨a2,0,none⟩)),EF (vP (some ⟨a2,0,none⟩)),EF (vP (some ⟨a2,0,none⟩)),EF (vP (some ⟨a2,1,none⟩)),EF (vI ((c.recs[no.toNat]!).asked)),EF (vO (BI day ((c.recs[no.toNat]!).asked)))] kR kR kR kR rfl rfl ⟨kI,kI,kI,kI,kI,kI,kI,kI,trivial⟩ ⟨?_,?_,?_,?_,?_,?_,?_,?_,trivial⟩ ?_)))
  ·intro F1 w1 k1 hf hd
   have k0:=(Keep.drew [] e7).trans k1
   have a4:=a4.keep k0 (by simp)
   obtain ⟨F2,rfl⟩:=BB (F:=F1) [(2,vP (some ⟨a3,0,none⟩))] ⟨hf 2 kR,trivial⟩
   exact AW rfl ((AR U64_ rfl (vP (some ⟨a2,0,none⟩)) rfl a4 rfl (⟨(Keep.refl _ _),rfl⟩)))
  ·intro F1 w1 k1 hf hd
   have k0:=(Keep.drew [] e7).trans k1
   have m1:Mv (a3 :: (a2 :: (a9 :: (a6 :: (b5 :: []))))) e7 (a3 :: (a2 :: (a9 :: (a6 :: (b5 :: []))))) w1:=Mv.of_keep k0
   have b3:=b3.mv m1
   obtain ⟨F2,rfl⟩:=BB (F:=F1) [(1,vP (some d0))] ⟨hf 1 kR,trivial⟩
   exact AW rfl ((BW U3_ rfl rfl b3 (⟨(Keep.refl _ _),rfl⟩)))
  ·intro F1 w1 k1 hf hd
   have k0:=(Keep.drew [] e7).trans k1
   have a4:=a4.keep k0 (by simp)
   obtain ⟨F2,rfl⟩:=BB (F:=F1) [(2,vP (some ⟨a3,0,none⟩))] ⟨hf 2 kR,trivial⟩
   exact AW rfl ((AR U64_ rfl (vP (some ⟨a2,0,none⟩)) rfl a4 rfl (⟨(Keep.refl _ _),rfl⟩)))
  ·intro F1 w1 k1 hf hd
   obtain ⟨F2,rfl⟩:=BB (F:=F1) [(5,vP (some ⟨a2,0,none⟩))] ⟨hd 2 5 kR,trivial⟩
   exact AW rfl ((CC ⟨a2,0,none⟩ rfl (⟨(Keep.refl _ _),rfl⟩)))
  ·intro F1 w1 k1 hf hd
   obtain ⟨F2,rfl⟩:=BB (F:=F1) [(6,vP (some ⟨a2,0,none⟩))] ⟨hd 3 6 kR,trivial⟩
   exact AW rfl ((AO 0 DY rfl (⟨(Keep.refl _ _),rfl⟩)))
  ·intro F1 w1 k1 hf hd
   obtain ⟨F2,rfl⟩:=BB (F:=F1) [(7,vP (some ⟨a2,0,none⟩))] ⟨hd 4 7 kR,trivial⟩
   exact AW rfl ((AO 1 HM rfl (⟨(Keep.refl _ _),rfl⟩)))
  ·intro F1 w1 k1 hf hd
   have k0:=(Keep.drew [] e7).trans k1
   have b0:=b0.keep k0 (by simp)
   obtain ⟨F2,rfl⟩:=BB (F:=F1) [(8,vP (some ⟨a2,1,none⟩))] ⟨hd 5 8 kR,trivial⟩
   exact AW rfl ((AR U3_ rfl (vI ((c.recs[no.toNat]!).asked)) rfl b0 rfl (⟨(Keep.refl _ _),rfl⟩)))
  ·intro F1 w1 k1 hf hd
   have k0:=(Keep.drew [] e7).trans k1
   have s1:=q4.call k0
   obtain ⟨F2,rfl⟩:=BB (F:=F1) [(4,vI day),(9,vI ((c.recs[no.toNat]!).asked))] ⟨hd 1 4 kR,hd 6 9 kR,trivial⟩
   refine AW rfl ((BJ (vs:=[vI day,vI ((c.recs[no.toNat]!).asked)]) GX (IB (O:=(a3 :: (a2 :: (a9 :: (a6 :: (b5 :: [])))))++O) day ((c.recs[no.toNat]!).asked) w1 s1.lt) rfl s1 fun I1 I2 I3 I4 x6 x7=>(?_)))
   obtain rfl:=x7
   exact ⟨x6,rfl⟩
  intro x8 x9 e8 j6 g3
  have q5:=q4.call e8
  have h9:Mv (a3 :: (a2 :: (a9 :: (a6 :: (b5 :: []))))) e7 (a3 :: (a2 :: (a9 :: (a6 :: (b5 :: []))))) x9:=Mv.of_keep e8
  have b3:=b3.mv h9
  have a8:=a8.mv h9
  have a5:=a5.mv h9
  have b6:=b6.mv h9
  have a0:=a0.keep e8 (by simp)
  have a7:=a7.keep e8 (by simp)
  have a1:=a1.keep e8 (by simp)
  have b0:=b0.keep e8 (by simp)
  have a4:=a4.keep e8 (by simp)
  obtain ⟨F2,rfl⟩:=BB (F:=x8) [(1,vP (some d0)),(2,vP (some ⟨a3,0,none⟩)),(18,undef),(3,vP (some ⟨a2,0,none⟩)),(10,vO (BI day ((c.recs[no.toNat]!).asked)))] ⟨g3 1 kR,g3 2 kR,g3 18 kR,j6 0 3 kR (by decide),j6 7 10 kR (by decide),trivial⟩
  clear j6 g3
  refine AA (DO [vP (some ⟨a2,0,none⟩),vO (BI day ((c.recs[no.toNat]!).asked)),vI 1] ES rfl (BC 11 Try.func41 rfl rfl oT (fun I5=>AF (AB kR (AA (AD (vO (BI day ((c.recs[no.toNat]!).asked))) rfl (AA (EI (BI day ((c.recs[no.toNat]!).asked)) rfl (AE (AC (AP (!(BI day ((c.recs[no.toNat]!).asked))) rfl rfl (fun j7=>?_) (fun j7=>?_))))))))))))
  ·have G4:(BI day ((c.recs[no.toNat]!).asked))=false:=by simpa using j7
   refine AB kR (AA (AD (vI 1) rfl (AA (CR (l:=[(0, .tmp 8)]) JA LV rfl [(0,vI 1,[vI 1])] [vI 1] rfl ⟨_,rfl,rfl,oT,rfl⟩ (AA (GA (vA #[vI 1]) U78_ rfl rfl (BE (GD rfl (CX rfl (CE (EA (CX rfl (CE (EA (GC (ED [vP (some ⟨a6,0,none⟩),vP (some ⟨a9,0,none⟩)] (.panicking [{ v:=Value.iface 78 (vA #[vI 1]),recovered:=false }]) rfl (fun h=>by cases h) rfl DJ (HJ (1:Int) a6 a9 q5 a7 a1 (by repeat (constructor)) (by repeat (constructor)) c1) (fun e_ I6 hR_=>?_)))))))))))))))))
   obtain ⟨v_,rfl,y0,I7,y1,t2,t3⟩:=hR_
   have a0:=a0.keep y1 (MS c3 e6)
   refine Exists.intro _ (And.intro (BY rfl (CN (vs:=[vI 0,vI 0,vI 0,nS,nS]) rfl U25_ rfl AV rfl t2 rfl) (GK rfl U28_ rfl rfl t3 rfl)) (BQ (AA (AJ (vA #[vI 0,vI 0,vI 0,nS,nS]) rfl rfl (AA (AJ (vI 1) rfl rfl (BE (AS (vs:=[vI 0,vI 0,vI 0,nS,nS]) (.agg #[vI 0,vI 0,vI 0,nS,nS]) rfl rfl rfl AV (fun u hu=>by simp only [List.mem_cons,List.not_mem_nil,or_false] at hu;rcases hu with rfl|rfl|rfl|rfl|rfl <;> rfl) (by repeat (constructor)) a0 oT y0 fun I8 y2 I9 J0 t4=>(AA (AG (vI 1) rfl (AE (AC (AT (BF rfl (BY rfl (CN (vs:=[vI 0,vI 0,vI 0,nS,nS]) rfl U25_ rfl AV rfl t4 rfl) (CY rfl rfl)) (?_)))))))))))))))
   have y3:((AK c no (BH day)).1)=(⟨(0:Int),(0:Int),(0:Int),[],[]⟩:Circle):=by exact congrArg (fun p=>p.1) (show AK c no (BH day)=_ from veto_day hok oM oM aS)
   have y4:((AK c no (BH day)).2)=(1:Int):=by exact congrArg (fun p=>p.2) (show AK c no (BH day)=_ from veto_day hok oM oM aS)
   exact ⟨_,rfl,y2.keep,by rw [y3,y4];exact ⟨[vI 0,vI 0,vI 0,nS,nS],rfl,Enc.out (B:=(a3 :: (a2 :: (a9 :: (a6 :: (b5 :: [])))))) ⟨.slice none 0 0, .slice none 0 0,rfl,(BV.nil _ _ _),(BV.nil _ _ _)⟩⟩⟩
  have G5:(BI day ((c.recs[no.toNat]!).asked))=true:=by simpa using j7
  refine AZ (DF rfl (EN rfl) (BQ (AE (AC (AB kR (AA (AR U64_ rfl (vP (some ⟨a2,0,none⟩)) rfl a4 rfl (AA (JM q5 fun b7 J1 y5 y6 i0 g4 t5=>(?_))))))))))
  have n3:CJ b5 b7:=by show b5≠b7;have:=a0.lt;omega
  have g5:CJ a6 b7:=by show a6≠b7;have:=a7.lt;omega
  have n4:CJ a9 b7:=by show a9≠b7;have:=a1.lt;omega
  have g6:CJ a2 b7:=by show a2≠b7;have:=b0.lt;omega
  have n5:CJ a3 b7:=by show a3≠b7;have:=a4.lt;omega
  clear y5
  have b3:=b3.mv i0
  have a8:=a8.mv i0
  have a5:=a5.mv i0
  have b6:=b6.mv i0
  have a0:=a0.keep g4 (by simp)
  have a7:=a7.keep g4 (by simp)
  have a1:=a1.keep g4 (by simp)
  have b0:=b0.keep g4 (by simp)
  have a4:=a4.keep g4 (by simp)
  refine AA (DN (first:=[]) (captured:=[.tmp 2]) [] [vP (some ⟨a3,0,none⟩)] rfl rfl (BE (FF U68_ U3_ rfl rfl rfl t5 (by repeat (constructor)) y6 rfl fun J2 y7 i1 g7 t6=>(?_))))
  have b3:=b3.mv i1
  have a8:=a8.mv i1
  have a5:=a5.mv i1
  have b6:=b6.mv i1
  have a0:=a0.keep g7 (AM n3)
  have a7:=a7.keep g7 (AM g5)
  have a1:=a1.keep g7 (AM n4)
  have b0:=b0.keep g7 (AM g6)
  have a4:=a4.keep g7 (AM n5)
  refine AA (DN (first:=[]) (captured:=[.tmp 2, .tmp 1]) [] [vP (some ⟨a3,0,none⟩),vP (some d0)] rfl rfl (BE (FF U68_ U3_ rfl rfl rfl t6 (by repeat (constructor)) y7 rfl fun J3 l2 i2 g8 b4=>(?_))))
  have b3:=b3.mv i2
  have a8:=a8.mv i2
  have a5:=a5.mv i2
  have b6:=b6.mv i2
  have a0:=a0.keep g8 (AM n3)
  have a7:=a7.keep g8 (AM g5)
  have a1:=a1.keep g8 (AM n4)
  have b0:=b0.keep g8 (AM g6)
  have a4:=a4.keep g8 (AM n5)
  refine AA (AD (Value.map (some b7)) rfl (AA (DO [vP (some ⟨a2,0,none⟩),Value.map (some b7)] MF rfl (BC 19 Try.func39 rfl rfl oT (fun J4=>AF (AB kR (AA (AD (Value.map (some b7)) rfl (AA (AD (vP (some ⟨a2,0,none⟩)) rfl (AA (CC ⟨a2,0,none⟩ rfl (AA (AO 0 DY rfl (AA (AO 2 EM rfl (AA (AR U3_ rfl (vI ((c.recs[no.toNat]!).state)) rfl b0 rfl (?_)))))))))))))))))))
  rcases (EJ hok oM oM:(c.recs[no.toNat]!).state=0∨(c.recs[no.toNat]!).state=1∨(c.recs[no.toNat]!).state=2) with f2|f2|f2
  ·refine AA (FB (k:=0) (vN (.func 51) #[] #[vP (some ⟨a3,0,none⟩),vP (some d0)]) U68_ U3_ rfl (congrArg vI f2) b4 rfl (AA (AD (vT #[vN (.func 51) #[] #[vP (some ⟨a3,0,none⟩),vP (some d0)],vO true]) rfl (AA (AJ (vN (.func 51) #[] #[vP (some ⟨a3,0,none⟩),vP (some d0)]) rfl rfl (AA (AJ (vO true) rfl rfl (AA (AG (vN (.func 51) #[] #[vP (some ⟨a3,0,none⟩),vP (some d0)]) rfl (AA (AG (vO true) rfl (AE (AC (AF (AB kR (AA (AD (vO true) rfl (AE (AC (AP true rfl rfl (fun _=>AB kR (AA (AD (vN (.func 51) #[] #[vP (some ⟨a3,0,none⟩),vP (some d0)]) rfl (AA (EO [] [vP (some ⟨a3,0,none⟩),vP (some d0)] [] enter_51 rfl rfl (BC 5 Try.func51 rfl rfl oT (fun J5=>AB kR (AA (AR U64_ rfl (vP (some ⟨a2,0,none⟩)) rfl a4 rfl (AA (BW U3_ rfl rfl b3 (AA (FY [vP (some ⟨a2,0,none⟩),vI day] _ enter_52 rfl (BC 14 Try.func52 rfl rfl oT (fun J6=>AB kR (AA (AD (vP (some ⟨a2,0,none⟩)) rfl (AA (AD (vP (some ⟨a2,0,none⟩)) rfl (AA (AD (vI day) rfl (AA (IL (E:=Enc.int) (xs:=[.tmp 6]) U22_ IA z_3 (by decide) [vI day] [[vI day]] [day] rfl rfl rfl (Parts.cons rfl rfl (Parts.nil _ _ _)) oT l2 fun i3 J7 y8 q6 f7 b8=>(?_))))))))))) (fun _ _ h=>h)))))))))))))) (fun h=>by cases h)))))))))))))))))))))
   have a8:=a8.mv q6
   have a5:=a5.mv q6
   have a0:=a0.keep f7 (by simp)
   have a7:=a7.keep f7 (by simp)
   have a1:=a1.keep f7 (by simp)
   have b0:=b0.keep f7 (by simp)
   have a4:=a4.keep f7 (by simp)
   have b4:=b4.keep f7 (by simp)
   have:=b8.len_le
   refine AA (CC ⟨a2,0,none⟩ rfl (AA (AO 0 DY rfl (AA (AO 2 EM rfl (BE (BP (vI 2) rfl rfl rfl IA (by repeat (constructor)) b0 oT y8 fun J8 y9 l3 g9 t7=>(?_))))))))
   have b8:=b8.mv l3
   have a8:=a8.mv l3
   have a5:=a5.mv l3
   have a0:=a0.keep g9 (AM q3)
   have a7:=a7.keep g9 (AM e3)
   have a1:=a1.keep g9 (AM m8)
   have a4:=a4.keep g9 (AM (Ne.symm n2))
   have b4:=b4.keep g9 (AM (Ne.symm g6))
   refine AA (CC ⟨a2,0,none⟩ rfl (AA (AO 0 DY rfl (AA (AO 4 f_47_4 rfl (BE (BP (i3) rfl rfl b8.oneCell s_22 (by repeat (constructor)) t7 oT y9 fun J9 z0 l4 h0 c2=>(?_))))))))
   have b8:=b8.mv l4
   have a8:=a8.mv l4
   have a5:=a5.mv l4
   have a0:=a0.keep h0 (AM q3)
   have a7:=a7.keep h0 (AM e3)
   have a1:=a1.keep h0 (AM m8)
   have a4:=a4.keep h0 (AM (Ne.symm n2))
   have b4:=b4.keep h0 (AM (Ne.symm g6))
   refine AE (DF rfl (EN rfl) (Exists.intro _ (And.intro rfl (AE (DF rfl (EN rfl) (BQ (AE (DF rfl (EN rfl) (BQ (AE (DF rfl (EN rfl) (BQ (AE (AC (AF (AB kR (AA (CH U25_ rfl AV rfl a8 fun G6 t8=>(?_)))))))))))))))))))
   obtain ⟨c4,q7,rfl,b1,n6⟩:=t8
   have:=b1.len_le
   have:=n6.len_le
   refine BE (AS (vs:=[vI c.epoch,vI c.threshold,vI c.wait,c4,q7]) (.agg #[vI c.epoch,vI c.threshold,vI c.wait,c4,q7]) rfl rfl rfl AV (fun u hu=>by simp only [List.mem_cons,List.not_mem_nil,or_false] at hu;rcases hu with rfl|rfl|rfl|rfl|rfl <;> first|rfl|exact b1.oneCell|exact n6.oneCell) (by repeat (constructor)) a7 oT z0 fun K0 z1 i4 h1 d8=>(?_))
   have a8:=a8.mv i4
   have a5:=a5.mv i4
   have b1:=b1.mv i4
   have a0:=a0.keep h1 (AM c3)
   have a1:=a1.keep h1 (AM (Ne.symm c1))
   have b8:=b8.mv i4
   have c2:=c2.keep h1 (AM (Ne.symm e3))
   have a4:=a4.keep h1 (AM (Ne.symm m9))
   have b4:=b4.keep h1 (AM (Ne.symm g5))
   refine AE (AC (AF (AB kR (AA (BG 4 BR (c.recs) rfl a8 (fun _ _ _ h=>BO h) fun K1 t9=>(AA (CD U23_ rfl rfl t9 fun l5 f3=>(?_))))))))
   have:=f3.len_le
   refine AA (FY [l5] _ GG rfl (BC 8 Try.func31 rfl rfl oT (fun K2=>AF (AB kR (AA (AG (nS) rfl (AE (AC (AF (AF (AB kR (AA (AD (l5) rfl (AA (GO U23_ rfl rfl f3 oM (AE (AC (AP false rfl rfl (fun h=>by cases h) (fun _=>AZ (AC (AF (AB kR (AA (GJ (E:=Enc.recovery) (xs:=[]) U23_ DC HH (by decide) [] [] [] rfl rfl rfl (Parts.nil _ _ _) oT z1 fun e9 z2 K3 z3 d1 z4 i5 f8 u0=>(?_)))))))))))))))))))))))) (fun _ _ h=>h))
   have n7:∀ b,e9.ownBlock=some b→b≠b5:=fun b hb=>by have:=a0.lt;rw [d1] at hb;cases hb;omega
   have n9:∀ b,e9.ownBlock=some b→b≠a6:=fun b hb=>by have:=d8.lt;rw [d1] at hb;cases hb;omega
   have o0:∀ b,e9.ownBlock=some b→b≠a9:=fun b hb=>by have:=a1.lt;rw [d1] at hb;cases hb;omega
   have o1:∀ b,e9.ownBlock=some b→b≠a2:=fun b hb=>by have:=c2.lt;rw [d1] at hb;cases hb;omega
   have u1:∀ b,e9.ownBlock=some b→b≠a3:=fun b hb=>by have:=a4.lt;rw [d1] at hb;cases hb;omega
   have u2:∀ b,e9.ownBlock=some b→b≠b7:=fun b hb=>by have:=b4.lt;rw [d1] at hb;cases hb;omega
   have u3:∀ b,e9.ownBlock=some b→b∈(z2 :: (b7 :: (a3 :: (a2 :: (a9 :: (a6 :: (b5 :: []))))))):=fun b hb=>by rw [d1] at hb;cases hb;simp
   clear z3 d1
   have f3:=f3.mv i5
   have a5:=a5.mv i5
   have b1:=b1.mv i5
   have a0:=a0.keep f8 (by simp)
   have d8:=d8.keep f8 (by simp)
   have a1:=a1.keep f8 (by simp)
   have b8:=b8.mv i5
   have c2:=c2.keep f8 (by simp)
   have a4:=a4.keep f8 (by simp)
   have b4:=b4.keep f8 (by simp)
   refine AA (AD (l5) rfl (AA (DK (E:=Enc.recovery) (l:=[]) (m:=c.recs) U23_ LE rfl (by decide) rfl rfl u0 f3 (fun _ hb=>.inl hb) u3 (by simp;omega) (by simp [maxLen];omega) z4 fun b9 K4 e0 u4 e4 d5 z5 l6 i6 d2=>(?_))))
   rw [List.nil_append] at d2
   have o2:∀ b,b9.ownBlock=some b→b≠b5:=fun b hb=>by rcases e4 with e1|e1 <;> rw [e1] at hb <;> first|(cases hb;have:=a0.lt;omega)|(exact n7 b hb)
   have j8:∀ b,b9.ownBlock=some b→b≠a6:=fun b hb=>by rcases e4 with e1|e1 <;> rw [e1] at hb <;> first|(cases hb;have:=d8.lt;omega)|(exact n9 b hb)
   have o3:∀ b,b9.ownBlock=some b→b≠a9:=fun b hb=>by rcases e4 with e1|e1 <;> rw [e1] at hb <;> first|(cases hb;have:=a1.lt;omega)|(exact o0 b hb)
   have G7:∀ b,b9.ownBlock=some b→b≠a2:=fun b hb=>by rcases e4 with e1|e1 <;> rw [e1] at hb <;> first|(cases hb;have:=c2.lt;omega)|(exact o1 b hb)
   have G8:∀ b,b9.ownBlock=some b→b≠a3:=fun b hb=>by rcases e4 with e1|e1 <;> rw [e1] at hb <;> first|(cases hb;have:=a4.lt;omega)|(exact u1 b hb)
   have G9:∀ b,b9.ownBlock=some b→b≠b7:=fun b hb=>by rcases e4 with e1|e1 <;> rw [e1] at hb <;> first|(cases hb;have:=b4.lt;omega)|(exact u2 b hb)
   have p5:b5∈e0:=d5 b5 (by repeat (constructor))
   have p6:a6∈e0:=d5 a6 (by repeat (constructor))
   have p7:a9∈e0:=d5 a9 (by repeat (constructor))
   have p8:a2∈e0:=d5 a2 (by repeat (constructor))
   have o4:a3∈e0:=d5 a3 (by repeat (constructor))
   have o5:b7∈e0:=d5 b7 (by repeat (constructor))
   have a5:=a5.mv l6
   have b1:=b1.mv l6
   have a0:=a0.keep i6 (by simp only [Option.mem_toList];exact fun e=>absurd rfl (n7 _ e))
   have d8:=d8.keep i6 (by simp only [Option.mem_toList];exact fun e=>absurd rfl (n9 _ e))
   have a1:=a1.keep i6 (by simp only [Option.mem_toList];exact fun e=>absurd rfl (o0 _ e))
   have b8:=b8.mv l6
   have c2:=c2.keep i6 (by simp only [Option.mem_toList];exact fun e=>absurd rfl (o1 _ e))
   refine AA (AG (b9) rfl (AE (AC (AT (BF rfl (CU rfl rfl rfl) (Exists.intro _ (And.intro rfl (AA (AO 4 BR rfl (BE (BP (b9) rfl rfl d2.oneCell MQ (by repeat (assumption)) d8 oT z5 fun l7 z6 i7 i8 c5=>(?_))))))))))))
   have a5:=a5.mv i7
   have b1:=b1.mv i7
   have d2:=d2.mv i7 i8 (fun b hb=>AM (j8 b hb))
   have a0:=a0.keep i8 (AM c3)
   have a1:=a1.keep i8 (AM (Ne.symm c1))
   have b8:=b8.mv i7
   have c2:=c2.keep i8 (AM (Ne.symm e3))
   refine AE (AC (AF (cw_draw' 7 _ _ [EF (vP (some ⟨a6,4,none⟩)),EF b9,EF (vI no),EF (vP (some ⟨a2,0,none⟩)),EF (vP (some ⟨a2,0,none⟩)),EF (vP (some ⟨a2,0,none⟩)),EF (vA #[vI ((c.recs[no.toNat]!).no),vI ((c.recs[no.toNat]!).asked),vI 2,d7,i3])] kR kR kR kR rfl rfl ⟨kI,kI,kI,kI,kI,kI,kI,trivial⟩ ⟨?_,?_,?_,?_,?_,?_,?_,trivial⟩ ?_)))
   ·intro F1 w1 k1 hf hd
    obtain ⟨F2,rfl⟩:=BB (F:=F1) [(6,vP (some ⟨a6,0,none⟩))] ⟨hf 6 kR,trivial⟩
    exact AW rfl ((AO 4 BR rfl (⟨(Keep.refl _ _),rfl⟩)))
   ·intro F1 w1 k1 hf hd
    have k0:=(Keep.drew [] l7).trans k1
    have c5:=c5.keep k0 (by simp)
    obtain ⟨F2,rfl⟩:=BB (F:=F1) [(42,vP (some ⟨a6,4,none⟩))] ⟨hd 0 42 kR,trivial⟩
    exact AW rfl ((AR U23_ rfl (b9) rfl c5 rfl (⟨(Keep.refl _ _),rfl⟩)))
   ·intro F1 w1 k1 hf hd
    obtain ⟨F2,rfl⟩:=BB (F:=F1) [(1,vI no)] ⟨hf 1 kR,trivial⟩
    exact AW rfl ((AD (vI no) rfl (⟨(Keep.refl _ _),rfl⟩)))
   ·intro F1 w1 k1 hf hd
    obtain ⟨F2,rfl⟩:=BB (F:=F1) [(9,vP (some ⟨a2,0,none⟩))] ⟨hf 9 kR,trivial⟩
    exact AW rfl ((AD (vP (some ⟨a2,0,none⟩)) rfl (⟨(Keep.refl _ _),rfl⟩)))
   ·intro F1 w1 k1 hf hd
    obtain ⟨F2,rfl⟩:=BB (F:=F1) [(45,vP (some ⟨a2,0,none⟩))] ⟨hd 3 45 kR,trivial⟩
    exact AW rfl ((CC ⟨a2,0,none⟩ rfl (⟨(Keep.refl _ _),rfl⟩)))
   ·intro F1 w1 k1 hf hd
    obtain ⟨F2,rfl⟩:=BB (F:=F1) [(46,vP (some ⟨a2,0,none⟩))] ⟨hd 4 46 kR,trivial⟩
    exact AW rfl ((AO 0 DY rfl (⟨(Keep.refl _ _),rfl⟩)))
   ·intro F1 w1 k1 hf hd
    have k0:=(Keep.drew [] l7).trans k1
    have c2:=c2.keep k0 (by simp)
    obtain ⟨F2,rfl⟩:=BB (F:=F1) [(47,vP (some ⟨a2,0,none⟩))] ⟨hd 5 47 kR,trivial⟩
    exact AW rfl ((AX (vs:=[vI ((c.recs[no.toNat]!).no),vI ((c.recs[no.toNat]!).asked),vI 2,d7,i3]) U47_ rfl DC rfl c2 rfl (⟨(Keep.refl _ _),rfl⟩)))
   intro z7 z8 f9 h2 h3
   have z9:=z6.call f9
   have i9:Mv e0 l7 e0 z8:=Mv.of_keep f9
   have a5:=a5.mv i9
   have b1:=b1.mv i9
   have d2:=d2.mv i9 f9 (by simp)
   have a0:=a0.keep f9 (by simp)
   have c5:=c5.keep f9 (by simp)
   have a1:=a1.keep f9 (by simp)
   have b8:=b8.mv i9
   obtain ⟨F2,rfl⟩:=BB (F:=z7) [(6,vP (some ⟨a6,0,none⟩)),(7,vP (some ⟨a9,0,none⟩)),(51, .tuple #[vN (.func 59) #[] #[vP (some ⟨a6,0,none⟩),vP (some ⟨a9,0,none⟩)]]),(43,b9),(44,vI no),(48,vA #[vI ((c.recs[no.toNat]!).no),vI ((c.recs[no.toNat]!).asked),vI 2,d7,i3])] ⟨h3 6 kR,h3 7 kR,h3 51 kR,h2 1 43 kR (by decide),h2 2 44 kR (by decide),h2 6 48 kR (by decide),trivial⟩
   clear h2 h3
   refine AA (FK U23_ DC .i64 no no.toNat rfl rfl oM d2 oM fun K5 f4=>(BE (GN (⟨(c.recs[no.toNat]!).no,(c.recs[no.toNat]!).asked,(2:Int),(c.recs[no.toNat]!).approved,[day]⟩:Recovery) (by decide) DC rfl rfl d2 f4 (u4 _ f4) oM ⟨_,_,rfl,a5,b8⟩ z9 fun K6 A0 A1 l8 c6=>(?_))))
   have a0:=a0.keep l8 (by simp only [List.mem_singleton];exact fun e=>absurd e.symm (o2 _ f4))
   have b1:=b1.mv A1
   have c5:=c5.keep l8 (by simp only [List.mem_singleton];exact fun e=>absurd e.symm (j8 _ f4))
   have a1:=a1.keep l8 (by simp only [List.mem_singleton];exact fun e=>absurd e.symm (o3 _ f4))
   refine AE (AC (AF (AB kR (AA (AX (vs:=[vI c.epoch,vI c.threshold,vI c.wait,c4,b9]) U25_ rfl AV rfl c5 rfl (BE (AS (vs:=[vI c.epoch,vI c.threshold,vI c.wait,c4,b9]) (.agg #[vI c.epoch,vI c.threshold,vI c.wait,c4,b9]) rfl rfl rfl AV (fun u hu=>by simp only [List.mem_cons,List.not_mem_nil,or_false] at hu;rcases hu with rfl|rfl|rfl|rfl|rfl <;> first|rfl|exact b1.oneCell|exact c6.oneCell) (by repeat (assumption)) c5 oT A0 fun K7 A2 q8 l9 j9=>(?_))))))))
   have c6:=c6.mv q8 l9 (fun b hb=>AM (j8 b hb))
   have b1:=b1.mv q8
   have a0:=a0.keep l9 (AM c3)
   have a1:=a1.keep l9 (AM (Ne.symm c1))
   refine BE (BP (vI 0) rfl rfl rfl IH (by repeat (assumption)) a1 oT A2 fun K8 A3 q9 m0 u5=>(?_))
   have c6:=c6.mv q9 m0 (fun b hb=>AM (o3 b hb))
   have b1:=b1.mv q9
   have a0:=a0.keep m0 (AM e6)
   have j9:=j9.keep m0 (AM c1)
   refine AE (AC (AT (IV (GQ [vP (some ⟨a6,0,none⟩),vP (some ⟨a9,0,none⟩)] 19 .returning rfl (fun h=>by cases h) rfl DJ Try.func59 rfl rfl oT rfl rfl (fun K9=>AF (AB kR (AA (AD (Value.nilIface) rfl (AA (o_neqNil' U20_ rfl (AE (AC (AP false rfl rfl (fun h=>by cases h) (fun _=>AZ (DF rfl (EN rfl) (Exists.intro _ (And.intro (BY rfl (CN (vs:=[vI c.epoch,vI c.threshold,vI c.wait,c4,b9]) rfl U25_ rfl AV rfl j9 rfl) (GK rfl U28_ rfl rfl u5 rfl)) (BQ (AA (AJ (vA #[vI c.epoch,vI c.threshold,vI c.wait,c4,b9]) rfl rfl (AA (AJ (vI 0) rfl rfl (BE (AS (vs:=[vI c.epoch,vI c.threshold,vI c.wait,c4,b9]) (.agg #[vI c.epoch,vI c.threshold,vI c.wait,c4,b9]) rfl rfl rfl AV (fun u hu=>by simp only [List.mem_cons,List.not_mem_nil,or_false] at hu;rcases hu with rfl|rfl|rfl|rfl|rfl <;> first|rfl|exact b1.oneCell|exact c6.oneCell) (by repeat (assumption)) a0 oT A3 fun L0 r0 r1 A4 u6=>(?_)))))))))))))))))))))))))
   have b1:=b1.mv r1
   have c6:=c6.mv r1 A4 (fun b hb=>AM (o2 b hb))
   refine AA (AG (vI 0) rfl (AE (AC (AT (BF rfl (BY rfl (CN (vs:=[vI c.epoch,vI c.threshold,vI c.wait,c4,b9]) rfl U25_ rfl AV rfl u6 rfl) (CY rfl rfl)) (?_))))))
   have A5:((AK c no (BH day)).1)=(⟨c.epoch,c.threshold,c.wait,c.guardians,c.recs.set no.toNat (⟨(c.recs[no.toNat]!).no,(c.recs[no.toNat]!).asked,(2:Int),(c.recs[no.toNat]!).approved,[day]⟩:Recovery)⟩:Circle):=by exact congrArg (fun p=>p.1) (show AK c no (BH day)=_ from MV hok oM oM aS aS)
   have A6:((AK c no (BH day)).2)=(0:Int):=by exact congrArg (fun p=>p.2) (show AK c no (BH day)=_ from MV hok oM oM aS aS)
   exact ⟨_,rfl,r0.keep,by rw [A5,A6];exact ⟨[vI c.epoch,vI c.threshold,vI c.wait,c4,b9],rfl,⟨_,_,rfl,b1.out,(c6.pub r0)⟩⟩⟩
  ·refine AA (FB (k:=1) (vN (.func 50) #[] #[vP (some ⟨a3,0,none⟩)]) U68_ U3_ rfl (congrArg vI f2) b4 rfl (AA (AD (vT #[vN (.func 50) #[] #[vP (some ⟨a3,0,none⟩)],vO true]) rfl (AA (AJ (vN (.func 50) #[] #[vP (some ⟨a3,0,none⟩)]) rfl rfl (AA (AJ (vO true) rfl rfl (AA (AG (vN (.func 50) #[] #[vP (some ⟨a3,0,none⟩)]) rfl (AA (AG (vO true) rfl (AE (AC (AF (AB kR (AA (AD (vO true) rfl (AE (AC (AP true rfl rfl (fun _=>AB kR (AA (AD (vN (.func 50) #[] #[vP (some ⟨a3,0,none⟩)]) rfl (AA (EO [] [vP (some ⟨a3,0,none⟩)] [] enter_50 rfl rfl (BC 3 Try.func50 rfl rfl oT (fun L1=>AB kR (AA (AR U64_ rfl (vP (some ⟨a2,0,none⟩)) rfl a4 rfl (AA (DO [vP (some ⟨a2,0,none⟩),vO false,vI 1] ES rfl (BC 11 Try.func41 rfl rfl oT (fun L2=>AF (AB kR (AA (AD (vO false) rfl (AA (EI false rfl (AE (AC (AP true rfl rfl (fun _=>AB kR (AA (AD (vI 1) rfl (AA (CR (l:=[(0, .tmp 8)]) JA LV rfl [(0,vI 1,[vI 1])] [vI 1] rfl ⟨_,rfl,rfl,oT,rfl⟩ (AA (GA (vA #[vI 1]) U78_ rfl rfl (BE (GD rfl (CX rfl (CE (CX rfl (CE (CX rfl (CE (CX rfl (CE (EA (GC (ED [vP (some ⟨a6,0,none⟩),vP (some ⟨a9,0,none⟩)] (.panicking [{ v:=Value.iface 78 (vA #[vI 1]),recovered:=false }]) rfl (fun h=>by cases h) rfl DJ (HJ (1:Int) a6 a9 l2 a7 a1 (by repeat (constructor)) (by repeat (constructor)) c1) (fun e_ L3 hR_=>?_))))))))))))))))))))) (fun h=>by cases h)))))))))))))))))))))) (fun h=>by cases h)))))))))))))))))))))
   obtain ⟨v_,rfl,A7,L4,A8,u7,u9⟩:=hR_
   have a0:=a0.keep A8 (MS c3 e6)
   refine Exists.intro _ (And.intro (BY rfl (CN (vs:=[vI 0,vI 0,vI 0,nS,nS]) rfl U25_ rfl AV rfl u7 rfl) (GK rfl U28_ rfl rfl u9 rfl)) (BQ (AA (AJ (vA #[vI 0,vI 0,vI 0,nS,nS]) rfl rfl (AA (AJ (vI 1) rfl rfl (BE (AS (vs:=[vI 0,vI 0,vI 0,nS,nS]) (.agg #[vI 0,vI 0,vI 0,nS,nS]) rfl rfl rfl AV (fun u hu=>by simp only [List.mem_cons,List.not_mem_nil,or_false] at hu;rcases hu with rfl|rfl|rfl|rfl|rfl <;> rfl) (by repeat (constructor)) a0 oT A7 fun L5 A9 L6 L7 v0=>(AA (AG (vI 1) rfl (AE (AC (AT (BF rfl (BY rfl (CN (vs:=[vI 0,vI 0,vI 0,nS,nS]) rfl U25_ rfl AV rfl v0 rfl) (CY rfl rfl)) (?_)))))))))))))))
   have B0:((AK c no (BH day)).1)=(⟨(0:Int),(0:Int),(0:Int),[],[]⟩:Circle):=by exact congrArg (fun p=>p.1) (show AK c no (BH day)=_ from MW hok oM oM aS aS)
   have B1:((AK c no (BH day)).2)=(1:Int):=by exact congrArg (fun p=>p.2) (show AK c no (BH day)=_ from MW hok oM oM aS aS)
   exact ⟨_,rfl,A9.keep,by rw [B0,B1];exact ⟨[vI 0,vI 0,vI 0,nS,nS],rfl,Enc.out (B:=(b7 :: (a3 :: (a2 :: (a9 :: (a6 :: (b5 :: []))))))) ⟨.slice none 0 0, .slice none 0 0,rfl,(BV.nil _ _ _),(BV.nil _ _ _)⟩⟩⟩
  refine AA (o_lookupN (k:=2) (z:=.nilFunc) U68_ U3_ kR rfl (congrArg vI f2) b4 rfl (AA (AD (vT #[Value.nilFunc,vO false]) rfl (AA (AJ (Value.nilFunc) rfl rfl (AA (AJ (vO false) rfl rfl (AA (AG (Value.nilFunc) rfl (AA (AG (vO false) rfl (AE (AC (AF (AB kR (AA (AD (vO false) rfl (AE (AC (AP false rfl rfl (fun h=>by cases h) (fun _=>AZ (DF rfl (EN rfl) (BQ (AE (DF rfl (EN rfl) (BQ (AE (AC (AF (AB kR (AA (CH U25_ rfl AV rfl a8 fun H0 v1=>(?_)))))))))))))))))))))))))))))))))
  obtain ⟨c7,r2,rfl,b2,o6⟩:=v1
  have:=b2.len_le
  have:=o6.len_le
  refine BE (AS (vs:=[vI c.epoch,vI c.threshold,vI c.wait,c7,r2]) (.agg #[vI c.epoch,vI c.threshold,vI c.wait,c7,r2]) rfl rfl rfl AV (fun u hu=>by simp only [List.mem_cons,List.not_mem_nil,or_false] at hu;rcases hu with rfl|rfl|rfl|rfl|rfl <;> first|rfl|exact b2.oneCell|exact o6.oneCell) (by repeat (constructor)) a7 oT l2 fun L8 B2 j0 h4 d9=>(?_))
  have a8:=a8.mv j0
  have a5:=a5.mv j0
  have b6:=b6.mv j0
  have b2:=b2.mv j0
  have a0:=a0.keep h4 (AM c3)
  have a1:=a1.keep h4 (AM (Ne.symm c1))
  have b0:=b0.keep h4 (AM (Ne.symm e3))
  have a4:=a4.keep h4 (AM (Ne.symm m9))
  have b4:=b4.keep h4 (AM (Ne.symm g5))
  refine AE (AC (AF (AB kR (AA (BG 4 BR (c.recs) rfl a8 (fun _ _ _ h=>BO h) fun L9 v2=>(AA (CD U23_ rfl rfl v2 fun m2 f5=>(?_))))))))
  have:=f5.len_le
  refine AA (FY [m2] _ GG rfl (BC 8 Try.func31 rfl rfl oT (fun M0=>AF (AB kR (AA (AG (nS) rfl (AE (AC (AF (AF (AB kR (AA (AD (m2) rfl (AA (GO U23_ rfl rfl f5 oM (AE (AC (AP false rfl rfl (fun h=>by cases h) (fun _=>AZ (AC (AF (AB kR (AA (GJ (E:=Enc.recovery) (xs:=[]) U23_ DC HH (by decide) [] [] [] rfl rfl rfl (Parts.nil _ _ _) oT B2 fun f0 B3 M1 B4 d3 B5 j1 g0 v3=>(?_)))))))))))))))))))))))) (fun _ _ h=>h))
  have o7:∀ b,f0.ownBlock=some b→b≠b5:=fun b hb=>by have:=a0.lt;rw [d3] at hb;cases hb;omega
  have o8:∀ b,f0.ownBlock=some b→b≠a6:=fun b hb=>by have:=d9.lt;rw [d3] at hb;cases hb;omega
  have o9:∀ b,f0.ownBlock=some b→b≠a9:=fun b hb=>by have:=a1.lt;rw [d3] at hb;cases hb;omega
  have p0:∀ b,f0.ownBlock=some b→b≠a2:=fun b hb=>by have:=b0.lt;rw [d3] at hb;cases hb;omega
  have v4:∀ b,f0.ownBlock=some b→b≠a3:=fun b hb=>by have:=a4.lt;rw [d3] at hb;cases hb;omega
  have v5:∀ b,f0.ownBlock=some b→b≠b7:=fun b hb=>by have:=b4.lt;rw [d3] at hb;cases hb;omega
  have v6:∀ b,f0.ownBlock=some b→b∈(B3 :: (b7 :: (a3 :: (a2 :: (a9 :: (a6 :: (b5 :: []))))))):=fun b hb=>by rw [d3] at hb;cases hb;simp
  clear B4 d3
  have f5:=f5.mv j1
  have a5:=a5.mv j1
  have b6:=b6.mv j1
  have b2:=b2.mv j1
  have a0:=a0.keep g0 (by simp)
  have d9:=d9.keep g0 (by simp)
  have a1:=a1.keep g0 (by simp)
  have b0:=b0.keep g0 (by simp)
  have a4:=a4.keep g0 (by simp)
  have b4:=b4.keep g0 (by simp)
  refine AA (AD (m2) rfl (AA (DK (E:=Enc.recovery) (l:=[]) (m:=c.recs) U23_ LE rfl (by decide) rfl rfl v3 f5 (fun _ hb=>.inl hb) v6 (by simp;omega) (by simp [maxLen];omega) B5 fun c0 M2 e2 v7 e5 d6 B6 m3 j2 d4=>(?_))))
  rw [List.nil_append] at d4
  have p1:∀ b,c0.ownBlock=some b→b≠b5:=fun b hb=>by rcases e5 with e1|e1 <;> rw [e1] at hb <;> first|(cases hb;have:=a0.lt;omega)|(exact o7 b hb)
  have k2:∀ b,c0.ownBlock=some b→b≠a6:=fun b hb=>by rcases e5 with e1|e1 <;> rw [e1] at hb <;> first|(cases hb;have:=d9.lt;omega)|(exact o8 b hb)
  have p2:∀ b,c0.ownBlock=some b→b≠a9:=fun b hb=>by rcases e5 with e1|e1 <;> rw [e1] at hb <;> first|(cases hb;have:=a1.lt;omega)|(exact o9 b hb)
  have H1:∀ b,c0.ownBlock=some b→b≠a2:=fun b hb=>by rcases e5 with e1|e1 <;> rw [e1] at hb <;> first|(cases hb;have:=b0.lt;omega)|(exact p0 b hb)
  have H2:∀ b,c0.ownBlock=some b→b≠a3:=fun b hb=>by rcases e5 with e1|e1 <;> rw [e1] at hb <;> first|(cases hb;have:=a4.lt;omega)|(exact v4 b hb)
  have H3:∀ b,c0.ownBlock=some b→b≠b7:=fun b hb=>by rcases e5 with e1|e1 <;> rw [e1] at hb <;> first|(cases hb;have:=b4.lt;omega)|(exact v5 b hb)
  have p5:b5∈e2:=d6 b5 (by repeat (constructor))
  have p6:a6∈e2:=d6 a6 (by repeat (constructor))
  have p7:a9∈e2:=d6 a9 (by repeat (constructor))
  have p8:a2∈e2:=d6 a2 (by repeat (constructor))
  have o4:a3∈e2:=d6 a3 (by repeat (constructor))
  have o5:b7∈e2:=d6 b7 (by repeat (constructor))
  have a5:=a5.mv m3
  have b6:=b6.mv m3
  have b2:=b2.mv m3
  have a0:=a0.keep j2 (by simp only [Option.mem_toList];exact fun e=>absurd rfl (o7 _ e))
  have d9:=d9.keep j2 (by simp only [Option.mem_toList];exact fun e=>absurd rfl (o8 _ e))
  have a1:=a1.keep j2 (by simp only [Option.mem_toList];exact fun e=>absurd rfl (o9 _ e))
  have b0:=b0.keep j2 (by simp only [Option.mem_toList];exact fun e=>absurd rfl (p0 _ e))
  refine AA (AG (c0) rfl (AE (AC (AT (BF rfl (CU rfl rfl rfl) (Exists.intro _ (And.intro rfl (AA (AO 4 BR rfl (BE (BP (c0) rfl rfl d4.oneCell MQ (by repeat (assumption)) d9 oT B6 fun m4 B7 j3 j4 c8=>(?_))))))))))))
  have a5:=a5.mv j3
  have b6:=b6.mv j3
  have b2:=b2.mv j3
  have d4:=d4.mv j3 j4 (fun b hb=>AM (k2 b hb))
  have a0:=a0.keep j4 (AM c3)
  have a1:=a1.keep j4 (AM (Ne.symm c1))
  have b0:=b0.keep j4 (AM (Ne.symm e3))
  refine AE (AC (AF (cw_draw' 7 _ _ [EF (vP (some ⟨a6,4,none⟩)),EF c0,EF (vI no),EF (vP (some ⟨a2,0,none⟩)),EF (vP (some ⟨a2,0,none⟩)),EF (vP (some ⟨a2,0,none⟩)),EF (vA #[vI ((c.recs[no.toNat]!).no),vI ((c.recs[no.toNat]!).asked),vI ((c.recs[no.toNat]!).state),d7,f1])] kR kR kR kR rfl rfl ⟨kI,kI,kI,kI,kI,kI,kI,trivial⟩ ⟨?_,?_,?_,?_,?_,?_,?_,trivial⟩ ?_)))
  ·intro F1 w1 k1 hf hd
   obtain ⟨F2,rfl⟩:=BB (F:=F1) [(6,vP (some ⟨a6,0,none⟩))] ⟨hf 6 kR,trivial⟩
   exact AW rfl ((AO 4 BR rfl (⟨(Keep.refl _ _),rfl⟩)))
  ·intro F1 w1 k1 hf hd
   have k0:=(Keep.drew [] m4).trans k1
   have c8:=c8.keep k0 (by simp)
   obtain ⟨F2,rfl⟩:=BB (F:=F1) [(42,vP (some ⟨a6,4,none⟩))] ⟨hd 0 42 kR,trivial⟩
   exact AW rfl ((AR U23_ rfl (c0) rfl c8 rfl (⟨(Keep.refl _ _),rfl⟩)))
  ·intro F1 w1 k1 hf hd
   obtain ⟨F2,rfl⟩:=BB (F:=F1) [(1,vI no)] ⟨hf 1 kR,trivial⟩
   exact AW rfl ((AD (vI no) rfl (⟨(Keep.refl _ _),rfl⟩)))
  ·intro F1 w1 k1 hf hd
   obtain ⟨F2,rfl⟩:=BB (F:=F1) [(9,vP (some ⟨a2,0,none⟩))] ⟨hf 9 kR,trivial⟩
   exact AW rfl ((AD (vP (some ⟨a2,0,none⟩)) rfl (⟨(Keep.refl _ _),rfl⟩)))
  ·intro F1 w1 k1 hf hd
   obtain ⟨F2,rfl⟩:=BB (F:=F1) [(45,vP (some ⟨a2,0,none⟩))] ⟨hd 3 45 kR,trivial⟩
   exact AW rfl ((CC ⟨a2,0,none⟩ rfl (⟨(Keep.refl _ _),rfl⟩)))
  ·intro F1 w1 k1 hf hd
   obtain ⟨F2,rfl⟩:=BB (F:=F1) [(46,vP (some ⟨a2,0,none⟩))] ⟨hd 4 46 kR,trivial⟩
   exact AW rfl ((AO 0 DY rfl (⟨(Keep.refl _ _),rfl⟩)))
  ·intro F1 w1 k1 hf hd
   have k0:=(Keep.drew [] m4).trans k1
   have b0:=b0.keep k0 (by simp)
   obtain ⟨F2,rfl⟩:=BB (F:=F1) [(47,vP (some ⟨a2,0,none⟩))] ⟨hd 5 47 kR,trivial⟩
   exact AW rfl ((AX (vs:=[vI ((c.recs[no.toNat]!).no),vI ((c.recs[no.toNat]!).asked),vI ((c.recs[no.toNat]!).state),d7,f1]) U47_ rfl DC rfl b0 rfl (⟨(Keep.refl _ _),rfl⟩)))
  intro B8 B9 g1 h5 h6
  have C0:=B7.call g1
  have j5:Mv e2 m4 e2 B9:=Mv.of_keep g1
  have a5:=a5.mv j5
  have b6:=b6.mv j5
  have b2:=b2.mv j5
  have d4:=d4.mv j5 g1 (by simp)
  have a0:=a0.keep g1 (by simp)
  have c8:=c8.keep g1 (by simp)
  have a1:=a1.keep g1 (by simp)
  obtain ⟨F2,rfl⟩:=BB (F:=B8) [(6,vP (some ⟨a6,0,none⟩)),(7,vP (some ⟨a9,0,none⟩)),(51, .tuple #[vN (.func 59) #[] #[vP (some ⟨a6,0,none⟩),vP (some ⟨a9,0,none⟩)]]),(43,c0),(44,vI no),(48,vA #[vI ((c.recs[no.toNat]!).no),vI ((c.recs[no.toNat]!).asked),vI ((c.recs[no.toNat]!).state),d7,f1])] ⟨h6 6 kR,h6 7 kR,h6 51 kR,h5 1 43 kR (by decide),h5 2 44 kR (by decide),h5 6 48 kR (by decide),trivial⟩
  clear h5 h6
  refine AA (FK U23_ DC .i64 no no.toNat rfl rfl oM d4 oM fun M3 f6=>(BE (GN (c.recs[no.toNat]!) (by decide) DC rfl rfl d4 f6 (v7 _ f6) oM ⟨_,_,rfl,a5,b6⟩ C0 fun M4 C1 C2 m5 c9=>(?_))))
  have a0:=a0.keep m5 (by simp only [List.mem_singleton];exact fun e=>absurd e.symm (p1 _ f6))
  have b2:=b2.mv C2
  have c8:=c8.keep m5 (by simp only [List.mem_singleton];exact fun e=>absurd e.symm (k2 _ f6))
  have a1:=a1.keep m5 (by simp only [List.mem_singleton];exact fun e=>absurd e.symm (p2 _ f6))
  refine AE (AC (AF (AB kR (AA (AX (vs:=[vI c.epoch,vI c.threshold,vI c.wait,c7,c0]) U25_ rfl AV rfl c8 rfl (BE (AS (vs:=[vI c.epoch,vI c.threshold,vI c.wait,c7,c0]) (.agg #[vI c.epoch,vI c.threshold,vI c.wait,c7,c0]) rfl rfl rfl AV (fun u hu=>by simp only [List.mem_cons,List.not_mem_nil,or_false] at hu;rcases hu with rfl|rfl|rfl|rfl|rfl <;> first|rfl|exact b2.oneCell|exact c9.oneCell) (by repeat (assumption)) c8 oT C1 fun M5 C3 r3 m6 k3=>(?_))))))))
  have c9:=c9.mv r3 m6 (fun b hb=>AM (k2 b hb))
  have b2:=b2.mv r3
  have a0:=a0.keep m6 (AM c3)
  have a1:=a1.keep m6 (AM (Ne.symm c1))
  refine BE (BP (vI 0) rfl rfl rfl IH (by repeat (assumption)) a1 oT C3 fun M6 C4 r4 m7 v8=>(?_))
  have c9:=c9.mv r4 m7 (fun b hb=>AM (p2 b hb))
  have b2:=b2.mv r4
  have a0:=a0.keep m7 (AM e6)
  have k3:=k3.keep m7 (AM c1)
  refine AE (AC (AT (IV (GQ [vP (some ⟨a6,0,none⟩),vP (some ⟨a9,0,none⟩)] 19 .returning rfl (fun h=>by cases h) rfl DJ Try.func59 rfl rfl oT rfl rfl (fun M7=>AF (AB kR (AA (AD (Value.nilIface) rfl (AA (o_neqNil' U20_ rfl (AE (AC (AP false rfl rfl (fun h=>by cases h) (fun _=>AZ (DF rfl (EN rfl) (Exists.intro _ (And.intro (BY rfl (CN (vs:=[vI c.epoch,vI c.threshold,vI c.wait,c7,c0]) rfl U25_ rfl AV rfl k3 rfl) (GK rfl U28_ rfl rfl v8 rfl)) (BQ (AA (AJ (vA #[vI c.epoch,vI c.threshold,vI c.wait,c7,c0]) rfl rfl (AA (AJ (vI 0) rfl rfl (BE (AS (vs:=[vI c.epoch,vI c.threshold,vI c.wait,c7,c0]) (.agg #[vI c.epoch,vI c.threshold,vI c.wait,c7,c0]) rfl rfl rfl AV (fun u hu=>by simp only [List.mem_cons,List.not_mem_nil,or_false] at hu;rcases hu with rfl|rfl|rfl|rfl|rfl <;> first|rfl|exact b2.oneCell|exact c9.oneCell) (by repeat (assumption)) a0 oT C4 fun M8 r5 r6 C5 v9=>(?_)))))))))))))))))))))))))
  have b2:=b2.mv r6
  have c9:=c9.mv r6 C5 (fun b hb=>AM (p1 b hb))
  refine AA (AG (vI 0) rfl (AE (AC (AT (BF rfl (BY rfl (CN (vs:=[vI c.epoch,vI c.threshold,vI c.wait,c7,c0]) rfl U25_ rfl AV rfl v9 rfl) (CY rfl rfl)) (?_))))))
  have C6:((AK c no (BH day)).1)=(⟨c.epoch,c.threshold,c.wait,c.guardians,c.recs.set no.toNat (c.recs[no.toNat]!)⟩:Circle):=by exact congrArg (fun p=>p.1) (show AK c no (BH day)=_ from MZ hok oM oM aS aS)
  have C7:((AK c no (BH day)).2)=(0:Int):=by exact congrArg (fun p=>p.2) (show AK c no (BH day)=_ from MZ hok oM oM aS aS)
  exact ⟨_,rfl,r5.keep,by rw [C6,C7];exact ⟨[vI c.epoch,vI c.threshold,vI c.wait,c7,c0],rfl,⟨_,_,rfl,b2.out,(c9.pub r5)⟩⟩⟩
 have H4:no<(0:Int):=by simpa using q0
 refine AU rfl (AU rfl (AU rfl (AU rfl (AU rfl (AA (AY (vO true) rfl rfl (AE (AC (AP true rfl rfl (fun _=>AF (AB kR (AA (AX (vs:=[vI 0,vI 0,vI 0,nS,nS]) U25_ rfl AV rfl a7 rfl (BE (AS (vs:=[vI 0,vI 0,vI 0,nS,nS]) (.agg #[vI 0,vI 0,vI 0,nS,nS]) rfl rfl rfl AV (fun u hu=>by simp only [List.mem_cons,List.not_mem_nil,or_false] at hu;rcases hu with rfl|rfl|rfl|rfl|rfl <;> rfl) (by repeat (constructor)) a7 oT k6 fun M9 C8 N0 r7 k4=>(?_))))))) (fun h=>by cases h))))))))))
 have a0:=a0.keep r7 (AM c3)
 have a1:=a1.keep r7 (AM (Ne.symm c1))
 refine BE (BP (vI 1) rfl rfl rfl IH (by repeat (constructor)) a1 oT C8 fun N1 C9 N2 r8 w0=>(?_))
 have a0:=a0.keep r8 (AM e6)
 have k4:=k4.keep r8 (AM c1)
 refine AE (AC (AT (BA (ID rfl (BY rfl (CN (vs:=[vI 0,vI 0,vI 0,nS,nS]) rfl U25_ rfl AV rfl k4 rfl) (GK rfl U28_ rfl rfl w0 rfl)) (BQ (AA (AJ (vA #[vI 0,vI 0,vI 0,nS,nS]) rfl rfl (AA (AJ (vI 1) rfl rfl (BE (AS (vs:=[vI 0,vI 0,vI 0,nS,nS]) (.agg #[vI 0,vI 0,vI 0,nS,nS]) rfl rfl rfl AV (fun u hu=>by simp only [List.mem_cons,List.not_mem_nil,or_false] at hu;rcases hu with rfl|rfl|rfl|rfl|rfl <;> rfl) (by repeat (constructor)) a0 oT C9 fun N3 D0 N4 N5 w2=>(AA (AG (vI 1) rfl (AE (AC (AT (BF rfl (BY rfl (CN (vs:=[vI 0,vI 0,vI 0,nS,nS]) rfl U25_ rfl AV rfl w2 rfl) (CY rfl rfl)) (?_))))))))))))))))))
 have D1:((AK c no (BH day)).1)=(⟨(0:Int),(0:Int),(0:Int),[],[]⟩:Circle):=by exact congrArg (fun p=>p.1) (show AK c no (BH day)=_ from LL hok oM)
 have D2:((AK c no (BH day)).2)=(1:Int):=by exact congrArg (fun p=>p.2) (show AK c no (BH day)=_ from LL hok oM)
 exact ⟨_,rfl,D0.keep,by rw [D1,D2];exact ⟨[vI 0,vI 0,vI 0,nS,nS],rfl,Enc.out (B:=(a9 :: (a6 :: (b5 :: [])))) ⟨.slice none 0 0, .slice none 0 0,rfl,(BV.nil _ _ _),(BV.nil _ _ _)⟩⟩⟩
open Go.Fw Go.RowKit
set_option maxHeartbeats 4000000 in
set_option maxRecDepth 100000 in
theorem GR {O:List Nat} (c_cs:List Value) (c:Circle) (no:Int) (guardian:Int) (w:World) (G6:Enc.circle.rd w O c_cs c) (hO:∀ b∈O,b<w.heap.size):DA Try.prog 18 [.agg c_cs.toArray,vI no,vI guardian] w (fun v w'=>∃ (x0:List Value),v = .tuple #[.agg x0.toArray,vI ((AK c no (AI c guardian)).2)]∧Enc.circle.rd w' (O) x0 ((AK c no (AI c guardian)).1)):= by
 have G6:Enc.circle.rd w ([]++O) c_cs c:=G6
 have s0:St w O w []:=St.start hO
 refine CA 14 Try.func18 rfl rfl oT (fun F0=>AF (AB kR (AA (EY (E:=Enc.circle) (vA c_cs.toArray) (c_cs) c rfl rfl G6 s0 fun e6 aM N1 aN aO b5=>(AA (EY (E:=Enc.int) (vI guardian) ([vI guardian]) guardian rfl rfl rfl N1 fun e2 aP N2 N3 aQ b6=>(?_)))))))
 have b5:=b5.mv N3
 refine AA (BS [vI 0,vI 0,vI 0,nS,nS] EZ rfl N2 fun b1 aR N4 N5 C9 aU a0=>(?_))
 clear N4
 have b5:=b5.mv C9
 have b6:=b6.mv C9
 refine AA (AG (vI 0) rfl (AE (AC (AF (AB kR (AA (CH U25_ rfl AV rfl b5 fun r1 G7=>(AA (AD (vI no) rfl (AA (DN (first:=[]) (captured:=[.tmp 3, .tmp 5]) [] [vP (some e6),vP (some e2)] rfl rfl (AA (DO [vA r1.toArray,vI no,vN (.func 38) #[] #[vP (some e6),vP (some e2)]] MC rfl (IC 51 Try.func37 rfl rfl oT (fun aV=>AF (AB kR (AA (EY (E:=Enc.circle) (vA r1.toArray) (r1) c rfl rfl G7 N5 fun aW aX N6 D0 N7 a9=>(?_)))))))))))))))))))
 have b5:=b5.mv D0
 have b6:=b6.mv D0
 have a0:=a0.keep N7 (by simp)
 refine AA (BS [vI 0,vI 0,vI 0,nS,nS] EZ rfl N6 fun a3 aY N8 N9 u5 O0 a8=>(?_))
 have c6:CJ b1 a3:=by show b1≠a3;have:=a0.lt;omega
 clear N8
 have b5:=b5.mv u5
 have b6:=b6.mv u5
 have a9:=a9.mv u5
 have a0:=a0.keep O0 (by simp)
 refine AA (BS [vI 0] z_28 rfl N9 fun a6 O1 O2 D1 u6 D2 a1=>(?_))
 have e8:CJ b1 a6:=by show b1≠a6;have:=a0.lt;omega
 have c0:CJ a3 a6:=by show a3≠a6;have:=a8.lt;omega
 clear O2
 have b5:=b5.mv u6
 have b6:=b6.mv u6
 have a9:=a9.mv u6
 have a0:=a0.keep D2 (by simp)
 have a8:=a8.keep D2 (by simp)
 refine AE (AC (AF (AF (AB kR (AA (CH U25_ rfl AV rfl a9 fun y1 G8=>(AA (BJ (vs:=[vA y1.toArray]) ET (GB (O:=(a6 :: (a3 :: (b1 :: [])))++O) y1 c O1 G8 D1.lt) rfl D1 fun aZ ba p3 u7 u9 O3=>(?_)))))))))
 obtain rfl:=O3
 have b5:=b5.mv u7
 have b6:=b6.mv u7
 have a9:=a9.mv u7
 have a0:=a0.keep u9 (by simp)
 have a8:=a8.keep u9 (by simp)
 have a1:=a1.keep u9 (by simp)
 refine AA (AG (vI (AL c)) rfl (AE (AC (AF (AB kR (AA (AD (vI (AL c)) rfl (AA (DS .i64 (AL c) (0:Int) rfl rfl (AE (AC (AP ((AL c) != (0:Int)) rfl rfl (fun r2=>?_) (fun r2=>?_)))))))))))))
 ·have Z4:AL c≠(0:Int):=by simpa using r2
  refine AF (AB kR (AA (AX (vs:=[vI 0,vI 0,vI 0,nS,nS]) U25_ rfl AV rfl a8 rfl (AA (AD (vI (AL c)) rfl (BE (AS (vs:=[vI 0,vI 0,vI 0,nS,nS]) (.agg #[vI 0,vI 0,vI 0,nS,nS]) rfl rfl rfl AV (fun u hu=>by simp only [List.mem_cons,List.not_mem_nil,or_false] at hu;rcases hu with rfl|rfl|rfl|rfl|rfl <;> rfl) (by repeat (constructor)) a8 oT p3 fun bb O4 bc D3 r3=>(?_))))))))
  have a0:=a0.keep D3 (AM c6)
  have a1:=a1.keep D3 (AM (Ne.symm c0))
  refine BE (BP (vI (AL c)) rfl rfl rfl IH (by repeat (constructor)) a1 oT O4 fun bd O5 be D4 G9=>(?_))
  have a0:=a0.keep D4 (AM e8)
  have r3:=r3.keep D4 (AM c0)
  refine AE (AC (AT (BA (ID rfl (BY rfl (CN (vs:=[vI 0,vI 0,vI 0,nS,nS]) rfl U25_ rfl AV rfl r3 rfl) (GK rfl U28_ rfl rfl G9 rfl)) (BQ (AA (AJ (vA #[vI 0,vI 0,vI 0,nS,nS]) rfl rfl (AA (AJ (vI (AL c)) rfl rfl (BE (AS (vs:=[vI 0,vI 0,vI 0,nS,nS]) (.agg #[vI 0,vI 0,vI 0,nS,nS]) rfl rfl rfl AV (fun u hu=>by simp only [List.mem_cons,List.not_mem_nil,or_false] at hu;rcases hu with rfl|rfl|rfl|rfl|rfl <;> rfl) (by repeat (constructor)) a0 oT O5 fun bf O6 bg bh H0=>(AA (AG (vI (AL c)) rfl (AE (AC (AT (BF rfl (BY rfl (CN (vs:=[vI 0,vI 0,vI 0,nS,nS]) rfl U25_ rfl AV rfl H0 rfl) (CY rfl rfl)) (?_))))))))))))))))))
  have O7:((AK c no (AI c guardian)).1)=(⟨(0:Int),(0:Int),(0:Int),[],[]⟩:Circle):=by exact congrArg (fun p=>p.1) (show AK c no (AI c guardian)=_ from app_bad aS)
  have O8:((AK c no (AI c guardian)).2)=(AL c):=by exact congrArg (fun p=>p.2) (show AK c no (AI c guardian)=_ from app_bad aS)
  exact ⟨_,rfl,O6.keep,by rw [O7,O8];exact ⟨[vI 0,vI 0,vI 0,nS,nS],rfl,Enc.out (B:=(a6 :: (a3 :: (b1 :: [])))) ⟨.slice none 0 0, .slice none 0 0,rfl,(BV.nil _ _ _),(BV.nil _ _ _)⟩⟩⟩
 have H1:AL c=(0:Int):=by simpa using r2
 have hok:AL c=0:=H1
 have hrl:=JV hok
 refine AZ (AC (AF (AF (AB kR (AA (AD (vI no) rfl (AA (DU .i64 no (0:Int) rfl rfl (AA (AD (vO (decide (no<(0:Int)))) rfl (?_)))))))))))
 cases y2:(decide (no<(0:Int)))
 ·have Z5:(0:Int)≤no:=by simpa using y2
  refine AQ rfl (AD (vI no) rfl (AQ rfl (BG 4 BR (c.recs) rfl a9 (fun _ _ _ h=>BO h) fun bi H2=>(AQ rfl (CD U23_ rfl rfl H2 fun bj y3=>(?_))))))
  have:=y3.len_le
  refine AQ rfl (CO U23_ rfl y3 (AQ rfl (IE .i64 no (c.recs.length:Int) rfl rfl (AA (BM (vO (decide ((c.recs.length:Int)≤no))) rfl rfl (AE (AC (AP (decide ((c.recs.length:Int)≤no)) rfl rfl (fun r4=>?_) (fun r4=>?_)))))))))
  ·have Z6:(c.recs.length:Int)≤no:=by simpa using r4
   refine AF (AB kR (AA (AX (vs:=[vI 0,vI 0,vI 0,nS,nS]) U25_ rfl AV rfl a8 rfl (BE (AS (vs:=[vI 0,vI 0,vI 0,nS,nS]) (.agg #[vI 0,vI 0,vI 0,nS,nS]) rfl rfl rfl AV (fun u hu=>by simp only [List.mem_cons,List.not_mem_nil,or_false] at hu;rcases hu with rfl|rfl|rfl|rfl|rfl <;> rfl) (by repeat (constructor)) a8 oT p3 fun bk O9 bl D5 r5=>(?_))))))
   have a0:=a0.keep D5 (AM c6)
   have a1:=a1.keep D5 (AM (Ne.symm c0))
   refine BE (BP (vI 1) rfl rfl rfl IH (by repeat (constructor)) a1 oT O9 fun bm P0 bn D6 H3=>(?_))
   have a0:=a0.keep D6 (AM e8)
   have r5:=r5.keep D6 (AM c0)
   refine AE (AC (AT (BA (ID rfl (BY rfl (CN (vs:=[vI 0,vI 0,vI 0,nS,nS]) rfl U25_ rfl AV rfl r5 rfl) (GK rfl U28_ rfl rfl H3 rfl)) (BQ (AA (AJ (vA #[vI 0,vI 0,vI 0,nS,nS]) rfl rfl (AA (AJ (vI 1) rfl rfl (BE (AS (vs:=[vI 0,vI 0,vI 0,nS,nS]) (.agg #[vI 0,vI 0,vI 0,nS,nS]) rfl rfl rfl AV (fun u hu=>by simp only [List.mem_cons,List.not_mem_nil,or_false] at hu;rcases hu with rfl|rfl|rfl|rfl|rfl <;> rfl) (by repeat (constructor)) a0 oT P0 fun bo P1 bp bq H4=>(AA (AG (vI 1) rfl (AE (AC (AT (BF rfl (BY rfl (CN (vs:=[vI 0,vI 0,vI 0,nS,nS]) rfl U25_ rfl AV rfl H4 rfl) (CY rfl rfl)) (?_))))))))))))))))))
   have P2:((AK c no (AI c guardian)).1)=(⟨(0:Int),(0:Int),(0:Int),[],[]⟩:Circle):=by exact congrArg (fun p=>p.1) (show AK c no (AI c guardian)=_ from app_no hok oM)
   have P3:((AK c no (AI c guardian)).2)=(1:Int):=by exact congrArg (fun p=>p.2) (show AK c no (AI c guardian)=_ from app_no hok oM)
   exact ⟨_,rfl,P1.keep,by rw [P2,P3];exact ⟨[vI 0,vI 0,vI 0,nS,nS],rfl,Enc.out (B:=(a6 :: (a3 :: (b1 :: [])))) ⟨.slice none 0 0, .slice none 0 0,rfl,(BV.nil _ _ _),(BV.nil _ _ _)⟩⟩⟩
  have Z7:no<(c.recs.length:Int):=by simpa using r4
  refine AZ (AC (AF (LP [vP (some ⟨a3,0,none⟩),vP (some ⟨a6,0,none⟩)] rfl rfl rfl rfl (AC (AF (AB kR (AA (BG 4 BR (c.recs) rfl a9 (fun _ _ _ h=>BO h) fun br H5=>(AA (CD U23_ rfl rfl H5 fun bs y4=>(?_)))))))))))
  have:=y4.len_le
  refine AA (AD (vI no) rfl (AA (DV U23_ DC .i64 no no.toNat rfl rfl oM y4 oM fun bt H6=>(AA (CH U47_ rfl DC rfl H6 fun Z8 H7=>(?_))))))
  obtain ⟨d1,d2,rfl,b4,a4⟩:=H7
  have:=b4.len_le
  have:=a4.len_le
  refine AA (CR (l:=[(0, .tmp 31)]) pl_74 z_74 rfl [(0,vA #[vI ((c.recs[no.toNat]!).no),vI ((c.recs[no.toNat]!).asked),vI ((c.recs[no.toNat]!).state),d1,d2],[vI ((c.recs[no.toNat]!).no),vI ((c.recs[no.toNat]!).asked),vI ((c.recs[no.toNat]!).state),d1,d2])] [vI ((c.recs[no.toNat]!).no),vI ((c.recs[no.toNat]!).asked),vI ((c.recs[no.toNat]!).state),d1,d2] rfl ⟨_,rfl,rfl,oT,rfl⟩ (AA (NG (vA #[vI ((c.recs[no.toNat]!).no),vI ((c.recs[no.toNat]!).asked),vI ((c.recs[no.toNat]!).state),d1,d2]) [vI ((c.recs[no.toNat]!).no),vI ((c.recs[no.toNat]!).asked),vI ((c.recs[no.toNat]!).state),d1,d2] rfl rfl p3 fun a2 bu P4 P5 m6 v0 b0=>(?_))))
  have y5:CJ b1 a2:=by show b1≠a2;have:=a0.lt;omega
  have g4:CJ a3 a2:=by show a3≠a2;have:=a8.lt;omega
  have y6:CJ a6 a2:=by show a6≠a2;have:=a1.lt;omega
  clear P4
  have b5:=b5.mv m6
  have b6:=b6.mv m6
  have a9:=a9.mv m6
  have b4:=b4.mv m6
  have a4:=a4.mv m6
  have a0:=a0.keep v0 (by simp)
  have a8:=a8.keep v0 (by simp)
  have a1:=a1.keep v0 (by simp)
  refine AA (AG (vP (some ⟨a2,0,none⟩)) rfl (AE (AC (AF (AB kR (AA (AD (vN (.func 38) #[] #[vP (some e6),vP (some e2)]) rfl (AA (AD (vP (some ⟨a2,0,none⟩)) rfl (AA (EO [] [vP (some e6),vP (some e2)] [vP (some ⟨a2,0,none⟩)] enter_38 rfl rfl (BC 11 Try.func38 rfl rfl oT (fun bv=>AF (AB kR (AA (NG (vP (some ⟨a2,0,none⟩)) [vP (some ⟨a2,0,none⟩)] rfl rfl P5 fun a5 bw P6 P7 m7 p4 a7=>(?_)))))))))))))))))
  have Z9:CJ b1 a5:=by show b1≠a5;have:=a0.lt;omega
  have r6:CJ a3 a5:=by show a3≠a5;have:=a8.lt;omega
  have aa:CJ a6 a5:=by show a6≠a5;have:=a1.lt;omega
  have y7:CJ a2 a5:=by show a2≠a5;have:=b0.lt;omega
  clear P6
  have b5:=b5.mv m7
  have b6:=b6.mv m7
  have a9:=a9.mv m7
  have b4:=b4.mv m7
  have a4:=a4.mv m7
  have a0:=a0.keep p4 (by simp)
  have a8:=a8.keep p4 (by simp)
  have a1:=a1.keep p4 (by simp)
  have b0:=b0.keep p4 (by simp)
  refine AE (AC (AB kR (AA (AR U64_ rfl (vP (some ⟨a2,0,none⟩)) rfl a7 rfl (AA (JM P7 fun b2 bx P8 P9 m8 m9 H8=>(?_)))))))
  have r7:CJ b1 b2:=by show b1≠b2;have:=a0.lt;omega
  have i9:CJ a3 b2:=by show a3≠b2;have:=a8.lt;omega
  have r8:CJ a6 b2:=by show a6≠b2;have:=a1.lt;omega
  have k4:CJ a2 b2:=by show a2≠b2;have:=b0.lt;omega
  have r9:CJ a5 b2:=by show a5≠b2;have:=a7.lt;omega
  clear P8
  have b5:=b5.mv m8
  have b6:=b6.mv m8
  have a9:=a9.mv m8
  have b4:=b4.mv m8
  have a4:=a4.mv m8
  have a0:=a0.keep m9 (by simp)
  have a8:=a8.keep m9 (by simp)
  have a1:=a1.keep m9 (by simp)
  have b0:=b0.keep m9 (by simp)
  have a7:=a7.keep m9 (by simp)
  refine AA (DN (first:=[]) (captured:=[.tmp 3]) [] [vP (some ⟨a5,0,none⟩)] rfl rfl (BE (FF U68_ U3_ rfl rfl rfl H8 (by repeat (constructor)) P9 rfl fun bz Q0 n2 n3 H9=>(?_))))
  have b5:=b5.mv n2
  have b6:=b6.mv n2
  have a9:=a9.mv n2
  have b4:=b4.mv n2
  have a4:=a4.mv n2
  have a0:=a0.keep n3 (AM r7)
  have a8:=a8.keep n3 (AM i9)
  have a1:=a1.keep n3 (AM r8)
  have b0:=b0.keep n3 (AM k4)
  have a7:=a7.keep n3 (AM r9)
  refine AA (DN (first:=[]) (captured:=[.tmp 3]) [] [vP (some ⟨a5,0,none⟩)] rfl rfl (BE (FF U68_ U3_ rfl rfl rfl H9 (by repeat (constructor)) Q0 rfl fun bA Q1 n4 n5 I0=>(?_))))
  have b5:=b5.mv n4
  have b6:=b6.mv n4
  have a9:=a9.mv n4
  have b4:=b4.mv n4
  have a4:=a4.mv n4
  have a0:=a0.keep n5 (AM r7)
  have a8:=a8.keep n5 (AM i9)
  have a1:=a1.keep n5 (AM r8)
  have b0:=b0.keep n5 (AM k4)
  have a7:=a7.keep n5 (AM r9)
  refine AA (DN (first:=[]) (captured:=[.tmp 3, .tmp 1, .tmp 2]) [] [vP (some ⟨a5,0,none⟩),vP (some e6),vP (some e2)] rfl rfl (BE (FF U68_ U3_ rfl rfl rfl I0 (by repeat (constructor)) Q1 rfl fun j2 p5 n6 n7 b3=>(?_))))
  have b5:=b5.mv n6
  have b6:=b6.mv n6
  have a9:=a9.mv n6
  have b4:=b4.mv n6
  have a4:=a4.mv n6
  have a0:=a0.keep n7 (AM r7)
  have a8:=a8.keep n7 (AM i9)
  have a1:=a1.keep n7 (AM r8)
  have b0:=b0.keep n7 (AM k4)
  have a7:=a7.keep n7 (AM r9)
  refine AA (AD (Value.map (some b2)) rfl (AA (DO [vP (some ⟨a2,0,none⟩),Value.map (some b2)] MF rfl (BC 19 Try.func39 rfl rfl oT (fun bB=>AF (AB kR (AA (AD (Value.map (some b2)) rfl (AA (AD (vP (some ⟨a2,0,none⟩)) rfl (AA (CC ⟨a2,0,none⟩ rfl (AA (AO 0 DY rfl (AA (AO 2 EM rfl (AA (AR U3_ rfl (vI ((c.recs[no.toNat]!).state)) rfl b0 rfl (?_)))))))))))))))))))
  rcases (EJ hok oM oM:(c.recs[no.toNat]!).state=0∨(c.recs[no.toNat]!).state=1∨(c.recs[no.toNat]!).state=2) with k5|k5|k5
  ·refine AA (FB (k:=0) (vN (.func 43) #[] #[vP (some ⟨a5,0,none⟩),vP (some e6),vP (some e2)]) U68_ U3_ rfl (congrArg vI k5) b3 rfl (AA (AD (vT #[vN (.func 43) #[] #[vP (some ⟨a5,0,none⟩),vP (some e6),vP (some e2)],vO true]) rfl (AA (AJ (vN (.func 43) #[] #[vP (some ⟨a5,0,none⟩),vP (some e6),vP (some e2)]) rfl rfl (AA (AJ (vO true) rfl rfl (AA (AG (vN (.func 43) #[] #[vP (some ⟨a5,0,none⟩),vP (some e6),vP (some e2)]) rfl (AA (AG (vO true) rfl (AE (AC (AF (AB kR (AA (AD (vO true) rfl (AE (AC (AP true rfl rfl (fun _=>AB kR (AA (AD (vN (.func 43) #[] #[vP (some ⟨a5,0,none⟩),vP (some e6),vP (some e2)]) rfl (AA (EO [] [vP (some ⟨a5,0,none⟩),vP (some e6),vP (some e2)] [] enter_43 rfl rfl (BC 12 Try.func43 rfl rfl oT (fun bC=>AF (cw_draw' 5 _ _ [EF (vP (some ⟨a2,0,none⟩)),fun (vT:Value) (wT:World)=>∃ aT,vT = .pointer (some aT)∧PT (Enc.slice Enc.int) wT ((b2 :: (a5 :: (a2 :: (a6 :: (a3 :: (b1 :: []))))))++O) (.pointer (some aT)) (c.guardians),fun (vT:Value) (wT:World)=>BV Enc.int wT ((b2 :: (a5 :: (a2 :: (a6 :: (a3 :: (b1 :: []))))))++O) vT (c.guardians),EF (vI guardian),EF (vO (c.guardians.contains guardian))] kR kR kR kR rfl rfl ⟨kI,fun _ _ _ ⟨a,e,h⟩ k=>⟨a,e,h.mv (Mv.of_keep k)⟩,fun _ _ _ h k=>h.mv (Mv.of_keep k),kI,kI,trivial⟩ ⟨?_,?_,?_,?_,?_,trivial⟩ ?_)))))))) (fun h=>by cases h)))))))))))))))))))))
   ·intro F1 w1 k1 hf hd
    have k0:=(Keep.drew [] j2).trans k1
    have a7:=a7.keep k0 (by simp)
    obtain ⟨F2,rfl⟩:=BB (F:=F1) [(0,vP (some ⟨a5,0,none⟩))] ⟨hf 0 kR,trivial⟩
    exact AW rfl ((AR U64_ rfl (vP (some ⟨a2,0,none⟩)) rfl a7 rfl (⟨(Keep.refl _ _),rfl⟩)))
   ·intro F1 w1 k1 hf hd
    have k0:=(Keep.drew [] j2).trans k1
    have m1:Mv (b2 :: (a5 :: (a2 :: (a6 :: (a3 :: (b1 :: [])))))) j2 (b2 :: (a5 :: (a2 :: (a6 :: (a3 :: (b1 :: [])))))) w1:=Mv.of_keep k0
    have b5:=b5.mv m1
    obtain ⟨F2,rfl⟩:=BB (F:=F1) [(1,vP (some e6))] ⟨hf 1 kR,trivial⟩
    exact AW rfl ((BG 3 KG (c.guardians) rfl b5 (fun _ _ _ h=>GE h) fun Q2 I1=>(⟨(Keep.refl _ _),⟨Q2,rfl,I1⟩⟩)))
   ·intro F1 w1 k1 hf hd
    obtain ⟨Q3,Q4,I2⟩:∃ aX_,F1 4 = .pointer (some aX_)∧PT (Enc.slice Enc.int) w1 ((b2 :: (a5 :: (a2 :: (a6 :: (a3 :: (b1 :: []))))))++O) (.pointer (some aX_)) (c.guardians):=hd 1 4 kR
    obtain ⟨F2,rfl⟩:=BB (F:=F1) [(4,vP (some Q3))] ⟨Q4,trivial⟩
    refine AW rfl ((CD U22_ rfl rfl I2 fun bD y8=>(?_)))
    have:=y8.len_le
    exact ⟨(Keep.refl _ _),y8⟩
   ·intro F1 w1 k1 hf hd
    have k0:=(Keep.drew [] j2).trans k1
    have m1:Mv (b2 :: (a5 :: (a2 :: (a6 :: (a3 :: (b1 :: [])))))) j2 (b2 :: (a5 :: (a2 :: (a6 :: (a3 :: (b1 :: [])))))) w1:=Mv.of_keep k0
    have b6:=b6.mv m1
    obtain ⟨F2,rfl⟩:=BB (F:=F1) [(2,vP (some e2))] ⟨hf 2 kR,trivial⟩
    exact AW rfl ((BW U3_ rfl rfl b6 (⟨(Keep.refl _ _),rfl⟩)))
   ·intro F1 w1 k1 hf hd
    have k0:=(Keep.drew [] j2).trans k1
    have s1:=p5.call k0
    obtain ⟨v1,Q5,y9⟩:∃ v,F1 5=v∧BV Enc.int w1 ((b2 :: (a5 :: (a2 :: (a6 :: (a3 :: (b1 :: []))))))++O) v (c.guardians):=⟨_,rfl,hd 2 5 kR⟩
    have:=y9.len_le
    obtain ⟨F2,rfl⟩:=BB (F:=F1) [(5,v1),(6,vI guardian)] ⟨Q5,hd 3 6 kR,trivial⟩
    refine AW rfl ((BJ (vs:=[v1,vI guardian]) enter_44 (MP (O:=(b2 :: (a5 :: (a2 :: (a6 :: (a3 :: (b1 :: []))))))++O) v1 c.guardians guardian w1 y9 s1.lt) rfl s1 fun bE bF bG bH Q6 Q7=>(?_)))
    obtain rfl:=Q7
    exact ⟨Q6,rfl⟩
   intro Q8 D7 i6 s2 n9
   have v2:=p5.call i6
   have p6:Mv (b2 :: (a5 :: (a2 :: (a6 :: (a3 :: (b1 :: [])))))) j2 (b2 :: (a5 :: (a2 :: (a6 :: (a3 :: (b1 :: [])))))) D7:=Mv.of_keep i6
   have b6:=b6.mv p6
   have a9:=a9.mv p6
   have b4:=b4.mv p6
   have a4:=a4.mv p6
   have a0:=a0.keep i6 (by simp)
   have a8:=a8.keep i6 (by simp)
   have a1:=a1.keep i6 (by simp)
   have b0:=b0.keep i6 (by simp)
   have a7:=a7.keep i6 (by simp)
   have b3:=b3.keep i6 (by simp)
   obtain ⟨F2,rfl⟩:=BB (F:=Q8) [(0,vP (some ⟨a5,0,none⟩)),(2,vP (some e2)),(12,undef),(3,vP (some ⟨a2,0,none⟩)),(7,vO (c.guardians.contains guardian))] ⟨n9 0 kR,n9 2 kR,n9 12 kR,s2 0 3 kR (by decide),s2 4 7 kR (by decide),trivial⟩
   clear s2 n9
   refine AA (DO [vP (some ⟨a2,0,none⟩),vO (c.guardians.contains guardian),vI 450] ES rfl (BC 11 Try.func41 rfl rfl oT (fun bI=>AF (AB kR (AA (AD (vO (c.guardians.contains guardian)) rfl (AA (EI (c.guardians.contains guardian) rfl (AE (AC (AP (!(c.guardians.contains guardian)) rfl rfl (fun s3=>?_) (fun s3=>?_))))))))))))
   ·have ab:(c.guardians.contains guardian)=false:=by simpa using s3
    refine AB kR (AA (AD (vI 450) rfl (AA (CR (l:=[(0, .tmp 8)]) JA LV rfl [(0,vI 450,[vI 450])] [vI 450] rfl ⟨_,rfl,rfl,oT,rfl⟩ (AA (GA (vA #[vI 450]) U78_ rfl rfl (BE (GD rfl (CX rfl (CE (EA (CX rfl (CE (CX rfl (CE (CX rfl (CE (EA (GC (ED [vP (some ⟨a3,0,none⟩),vP (some ⟨a6,0,none⟩)] (.panicking [{ v:=Value.iface 78 (vA #[vI 450]),recovered:=false }]) rfl (fun h=>by cases h) rfl DJ (HJ (450:Int) a3 a6 v2 a8 a1 (by repeat (constructor)) (by repeat (constructor)) c0) (fun e_ bJ hR_=>?_)))))))))))))))))))))
    obtain ⟨v_,rfl,Q9,bK,R0,I3,I4⟩:=hR_
    have a0:=a0.keep R0 (MS c6 e8)
    refine Exists.intro _ (And.intro (BY rfl (CN (vs:=[vI 0,vI 0,vI 0,nS,nS]) rfl U25_ rfl AV rfl I3 rfl) (GK rfl U28_ rfl rfl I4 rfl)) (BQ (AA (AJ (vA #[vI 0,vI 0,vI 0,nS,nS]) rfl rfl (AA (AJ (vI 450) rfl rfl (BE (AS (vs:=[vI 0,vI 0,vI 0,nS,nS]) (.agg #[vI 0,vI 0,vI 0,nS,nS]) rfl rfl rfl AV (fun u hu=>by simp only [List.mem_cons,List.not_mem_nil,or_false] at hu;rcases hu with rfl|rfl|rfl|rfl|rfl <;> rfl) (by repeat (constructor)) a0 oT Q9 fun bL R1 bM bN I5=>(AA (AG (vI 450) rfl (AE (AC (AT (BF rfl (BY rfl (CN (vs:=[vI 0,vI 0,vI 0,nS,nS]) rfl U25_ rfl AV rfl I5 rfl) (CY rfl rfl)) (?_)))))))))))))))
    have R2:((AK c no (AI c guardian)).1)=(⟨(0:Int),(0:Int),(0:Int),[],[]⟩:Circle):=by exact congrArg (fun p=>p.1) (show AK c no (AI c guardian)=_ from app_not hok oM oM aS aS)
    have R3:((AK c no (AI c guardian)).2)=(450:Int):=by exact congrArg (fun p=>p.2) (show AK c no (AI c guardian)=_ from app_not hok oM oM aS aS)
    exact ⟨_,rfl,R1.keep,by rw [R2,R3];exact ⟨[vI 0,vI 0,vI 0,nS,nS],rfl,Enc.out (B:=(b2 :: (a5 :: (a2 :: (a6 :: (a3 :: (b1 :: []))))))) ⟨.slice none 0 0, .slice none 0 0,rfl,(BV.nil _ _ _),(BV.nil _ _ _)⟩⟩⟩
   have ac:(c.guardians.contains guardian)=true:=by simpa using s3
   refine AZ (DF rfl (EN rfl) (BQ (AE (AC (AB kR (AA (AR U64_ rfl (vP (some ⟨a2,0,none⟩)) rfl a7 rfl (AA (BW U3_ rfl rfl b6 (AA (FY [vP (some ⟨a2,0,none⟩),vI guardian] _ enter_45 rfl (BC 32 Try.func45 rfl rfl oT (fun bO=>AF (AB kR (AA (AD (vP (some ⟨a2,0,none⟩)) rfl (AA (CC ⟨a2,0,none⟩ rfl (AA (AO 0 DY rfl (AA (AO 3 HF rfl (AA (AR U22_ rfl (d1) rfl b0 rfl (AA (AD (vI guardian) rfl (AA (BJ (vs:=[d1,vI guardian]) enter_61 (c_bs (O:=(b2 :: (a5 :: (a2 :: (a6 :: (a3 :: (b1 :: []))))))++O) d1 ((c.recs[no.toNat]!).approved) guardian D7 b4 (LA hok oM oM) (by have:=HD (CL (FV hok (k:=no.toNat) oM)).2.2;omega) v2.lt) rfl v2 fun bP R4 v3 v4 l3 R5=>(?_)))))))))))))))))) (fun _ _ h=>h))))))))))))
   obtain rfl:=R5
   have b4:=b4.mv v4
   have a9:=a9.mv v4
   have a4:=a4.mv v4
   have a0:=a0.keep l3 (by simp)
   have a8:=a8.keep l3 (by simp)
   have a1:=a1.keep l3 (by simp)
   have b0:=b0.keep l3 (by simp)
   have a7:=a7.keep l3 (by simp)
   have b3:=b3.keep l3 (by simp)
   refine AA (AD (vT #[vI ((tw ((c.recs[no.toNat]!).approved) guardian:Nat):Int),vO (KW ((c.recs[no.toNat]!).approved) guardian)]) rfl (AA (AJ (vI ((tw ((c.recs[no.toNat]!).approved) guardian:Nat):Int)) rfl rfl (AA (AJ (vO (KW ((c.recs[no.toNat]!).approved) guardian)) rfl rfl (AA (AG (vI ((tw ((c.recs[no.toNat]!).approved) guardian:Nat):Int)) rfl (AA (AG (vO (KW ((c.recs[no.toNat]!).approved) guardian)) rfl (AE (AC (AF (AB kR (AA (AD (vO (KW ((c.recs[no.toNat]!).approved) guardian)) rfl (AA (EI (KW ((c.recs[no.toNat]!).approved) guardian) rfl (AE (AC (AP (!(KW ((c.recs[no.toNat]!).approved) guardian)) rfl rfl (fun s4=>?_) (fun s4=>?_)))))))))))))))))))))
   ·have ad:(KW ((c.recs[no.toNat]!).approved) guardian)=false:=by simpa using s4
    refine AB kR (AA (AD (vP (some ⟨a2,0,none⟩)) rfl (AA (AD (vP (some ⟨a2,0,none⟩)) rfl (AA (CC ⟨a2,0,none⟩ rfl (AA (AO 0 DY rfl (AA (AO 3 HF rfl (AA (AR U22_ rfl (d1) rfl b0 rfl (AA (FY [d1] _ enter_29 rfl (BC 8 Try.func29 rfl rfl oT (fun bQ=>AF (AB kR (AA (AG (nS) rfl (AE (AC (AF (AF (AB kR (AA (AD (d1) rfl (AA (HQ U22_ rfl rfl b4 fun s5 G5=>(AE (AC (AP (s5) rfl rfl (fun s6=>?_) (fun s6=>?_)))))))))))))))))) (fun _ _ h=>h)))))))))))))))
    ·have ae:s5=true:=by simpa using s6
     refine AF (AB kR (AA (AG (nS) rfl (AE (AC (AT (BA (BF rfl (CU rfl rfl rfl) (?_)))))))))
     have u4:(c.recs[no.toNat]!).approved=[]:=G5 aS
     have af:BV Enc.int R4 ((b2 :: (a5 :: (a2 :: (a6 :: (a3 :: (b1 :: []))))))++O) (.slice none 0 0) ((c.recs[no.toNat]!).approved):=by rw [u4];exact BV.nil _ _ _
     refine Exists.intro _ (And.intro rfl (AA (AD (vI ((tw ((c.recs[no.toNat]!).approved) guardian:Nat):Int)) rfl (AA (AD (vI guardian) rfl (AA (GJ (E:=Enc.int) (xs:=[.tmp 26]) U22_ IA z_3 (by decide) [vI guardian] [[vI guardian]] [guardian] rfl rfl rfl (Parts.cons rfl rfl (Parts.nil _ _ _)) oT v3 fun e9 R6 bR R7 g5 R8 D8 l4 z0=>(?_))))))))
     have ag:∀ b,e9.ownBlock=some b→b≠b1:=fun b hb=>by have:=a0.lt;rw [g5] at hb;cases hb;omega
     have ah:∀ b,e9.ownBlock=some b→b≠a3:=fun b hb=>by have:=a8.lt;rw [g5] at hb;cases hb;omega
     have ai:∀ b,e9.ownBlock=some b→b≠a6:=fun b hb=>by have:=a1.lt;rw [g5] at hb;cases hb;omega
     have aj:∀ b,e9.ownBlock=some b→b≠a2:=fun b hb=>by have:=b0.lt;rw [g5] at hb;cases hb;omega
     have ak:∀ b,e9.ownBlock=some b→b≠a5:=fun b hb=>by have:=a7.lt;rw [g5] at hb;cases hb;omega
     have al:∀ b,e9.ownBlock=some b→b≠b2:=fun b hb=>by have:=b3.lt;rw [g5] at hb;cases hb;omega
     have s7:∀ b,e9.ownBlock=some b→b∈(R6 :: (b2 :: (a5 :: (a2 :: (a6 :: (a3 :: (b1 :: []))))))):=fun b hb=>by rw [g5] at hb;cases hb;simp
     clear R7 g5
     have a9:=a9.mv D8
     have a4:=a4.mv D8
     have a0:=a0.keep l4 (by simp)
     have a8:=a8.keep l4 (by simp)
     have a1:=a1.keep l4 (by simp)
     have b0:=b0.keep l4 (by simp)
     have a7:=a7.keep l4 (by simp)
     have b3:=b3.keep l4 (by simp)
     refine AA (DO [nS,vI ((tw ((c.recs[no.toNat]!).approved) guardian:Nat):Int),e9] enter_62 rfl (Calls.mono (NN (.slice none 0 0) e9 ((c.recs[no.toNat]!).approved) ([guardian]) (tw ((c.recs[no.toNat]!).approved) guardian) R8 (by rw [u4];exact DX.nil Enc.int 3 _ _ _) z0 (by intro b hb;simp [Value.ownBlock] at hb) s7 (fun b hb=>by simp [Value.ownBlock] at hb) (by simp) (tw_le _ _) (by have:=HD (CL (FV hok (k:=no.toNat) oM)).2.2;simp only [List.length_cons,List.length_nil];omega) (by have:=HD (CL (FV hok (k:=no.toNat) oM)).2.2;simp only [List.length_cons,List.length_nil,maxLen];omega)) (fun e_ bS hR_=>?_)))
     obtain ⟨c7,g9,rfl,o0,h7,g0,R9,D9,l5,c4⟩:=hR_
     refine BQ ?_
     have am:∀ b,e9.ownBlock=some b→c7.ownBlock≠some b:=fun b hb e=>(h7 b e).elim (fun e1=>(by simp [Value.ownBlock] at e1)) (fun e1=>by have:=(z0.lt b hb).2;omega)
     have I6:∀ b,c7.ownBlock=some b→b≠b1:=fun b hb=>(h7 b hb).elim (fun e1=>(by simp [Value.ownBlock] at e1)) (fun e1=>by have:=a0.lt;omega)
     have s8:∀ b,c7.ownBlock=some b→b≠a3:=fun b hb=>(h7 b hb).elim (fun e1=>(by simp [Value.ownBlock] at e1)) (fun e1=>by have:=a8.lt;omega)
     have I7:∀ b,c7.ownBlock=some b→b≠a6:=fun b hb=>(h7 b hb).elim (fun e1=>(by simp [Value.ownBlock] at e1)) (fun e1=>by have:=a1.lt;omega)
     have z1:∀ b,c7.ownBlock=some b→b≠a2:=fun b hb=>(h7 b hb).elim (fun e1=>(by simp [Value.ownBlock] at e1)) (fun e1=>by have:=b0.lt;omega)
     have I8:∀ b,c7.ownBlock=some b→b≠a5:=fun b hb=>(h7 b hb).elim (fun e1=>(by simp [Value.ownBlock] at e1)) (fun e1=>by have:=a7.lt;omega)
     have I9:∀ b,c7.ownBlock=some b→b≠b2:=fun b hb=>(h7 b hb).elim (fun e1=>(by simp [Value.ownBlock] at e1)) (fun e1=>by have:=b3.lt;omega)
     have s7:∀ b,e9.ownBlock=some b→b∈g9:=fun b hb=>g0 b (s7 b hb)
     have d3:b1∈g9:=g0 b1 (by repeat (constructor))
     have d4:a3∈g9:=g0 a3 (by repeat (constructor))
     have d5:a6∈g9:=g0 a6 (by repeat (constructor))
     have d6:a2∈g9:=g0 a2 (by repeat (constructor))
     have d7:a5∈g9:=g0 a5 (by repeat (constructor))
     have d8:b2∈g9:=g0 b2 (by repeat (constructor))
     have a9:=a9.mv D9
     have a4:=a4.mv D9
     have a0:=a0.keep l5 (by simp [Value.ownBlock])
     have a8:=a8.keep l5 (by simp [Value.ownBlock])
     have a1:=a1.keep l5 (by simp [Value.ownBlock])
     have b0:=b0.keep l5 (by simp [Value.ownBlock])
     have a7:=a7.keep l5 (by simp [Value.ownBlock])
     have b3:=b3.keep l5 (by simp [Value.ownBlock])
     refine AA (CC ⟨a2,0,none⟩ rfl (AA (AO 0 DY rfl (AA (AO 3 HF rfl (BE (BP (c7) rfl rfl c4.oneCell s_22 (by repeat (assumption)) b0 oT R9 fun bT S0 v5 l6 c9=>(?_))))))))
     have c4:=c4.mv v5 l6 (fun b hb=>AM (z1 b hb))
     have a9:=a9.mv v5
     have a4:=a4.mv v5
     have a0:=a0.keep l6 (AM y5)
     have a8:=a8.keep l6 (AM g4)
     have a1:=a1.keep l6 (AM y6)
     have a7:=a7.keep l6 (AM (Ne.symm y7))
     have b3:=b3.keep l6 (AM (Ne.symm k4))
     refine AE (DF rfl (EN rfl) (Exists.intro _ (And.intro rfl (AE (DF rfl (EN rfl) (BQ (AE (DF rfl (EN rfl) (BQ (AE (DF rfl (EN rfl) (BQ (AE (AC (AF (AB kR (AA (CH U25_ rfl AV rfl a9 fun an J0=>(?_)))))))))))))))))))
     obtain ⟨f0,E0,rfl,b7,z2⟩:=J0
     have:=b7.len_le
     have:=z2.len_le
     refine BE (AS (vs:=[vI c.epoch,vI c.threshold,vI c.wait,f0,E0]) (.agg #[vI c.epoch,vI c.threshold,vI c.wait,f0,E0]) rfl rfl rfl AV (fun u hu=>by simp only [List.mem_cons,List.not_mem_nil,or_false] at hu;rcases hu with rfl|rfl|rfl|rfl|rfl <;> first|rfl|exact b7.oneCell|exact z2.oneCell) (by repeat (assumption)) a8 oT S0 fun bU S1 p7 l7 h8=>(?_))
     have a9:=a9.mv p7
     have a4:=a4.mv p7
     have b7:=b7.mv p7
     have a0:=a0.keep l7 (AM c6)
     have a1:=a1.keep l7 (AM (Ne.symm c0))
     have c4:=c4.mv p7 l7 (fun b hb=>AM (s8 b hb))
     have c9:=c9.keep l7 (AM (Ne.symm g4))
     have a7:=a7.keep l7 (AM (Ne.symm r6))
     have b3:=b3.keep l7 (AM (Ne.symm i9))
     refine AE (AC (AF (AB kR (AA (BG 4 BR (c.recs) rfl a9 (fun _ _ _ h=>BO h) fun bV J1=>(AA (CD U23_ rfl rfl J1 fun v6 k6=>(?_))))))))
     have:=k6.len_le
     refine AA (FY [v6] _ GG rfl (BC 8 Try.func31 rfl rfl oT (fun bW=>AF (AB kR (AA (AG (nS) rfl (AE (AC (AF (AF (AB kR (AA (AD (v6) rfl (AA (GO U23_ rfl rfl k6 oM (AE (AC (AP false rfl rfl (fun h=>by cases h) (fun _=>AZ (AC (AF (AB kR (AA (GJ (E:=Enc.recovery) (xs:=[]) U23_ DC HH (by decide) [] [] [] rfl rfl rfl (Parts.nil _ _ _) oT S1 fun h0 E1 bX S2 f1 S3 p8 j3 J2=>(?_)))))))))))))))))))))))) (fun _ _ h=>h))
     have z3:∀ b,h0.ownBlock=some b→b≠b1:=fun b hb=>by have:=a0.lt;rw [f1] at hb;cases hb;omega
     have z4:∀ b,h0.ownBlock=some b→b≠a3:=fun b hb=>by have:=h8.lt;rw [f1] at hb;cases hb;omega
     have z5:∀ b,h0.ownBlock=some b→b≠a6:=fun b hb=>by have:=a1.lt;rw [f1] at hb;cases hb;omega
     have z6:∀ b,h0.ownBlock=some b→b≠a2:=fun b hb=>by have:=c9.lt;rw [f1] at hb;cases hb;omega
     have J3:∀ b,h0.ownBlock=some b→b≠a5:=fun b hb=>by have:=a7.lt;rw [f1] at hb;cases hb;omega
     have J4:∀ b,h0.ownBlock=some b→b≠b2:=fun b hb=>by have:=b3.lt;rw [f1] at hb;cases hb;omega
     have s9:∀ b,c7.ownBlock=some b→h0.ownBlock≠some b:=fun b hb=>by have:=(c4.lt b hb).2;rw [f1];intro e;cases e;omega
     have ne1585':∀ b,h0.ownBlock=some b→c7.ownBlock≠some b:=fun b hb e=>s9 b e hb
     have J5:∀ b,h0.ownBlock=some b→b∈(E1 :: g9):=fun b hb=>by rw [f1] at hb;cases hb;simp
     clear S2 f1
     have o0:∀ b,c7.ownBlock=some b→b∈(E1 :: g9):=fun b hb=>List.mem_cons_of_mem _ (o0 b hb)
     have k6:=k6.mv p8
     have a4:=a4.mv p8
     have b7:=b7.mv p8
     have a0:=a0.keep j3 (by simp)
     have h8:=h8.keep j3 (by simp)
     have a1:=a1.keep j3 (by simp)
     have c4:=c4.mv p8 j3 (by simp)
     have c9:=c9.keep j3 (by simp)
     have a7:=a7.keep j3 (by simp)
     have b3:=b3.keep j3 (by simp)
     refine AA (AD (v6) rfl (AA (DK (E:=Enc.recovery) (l:=[]) (m:=c.recs) U23_ LE rfl (by decide) rfl rfl J2 k6 (fun _ hb=>.inl hb) J5 (by simp;omega) (by simp [maxLen];omega) S3 fun c1 bY h1 t0 h9 g1 S4 v7 o1 e4=>(?_))))
     rw [List.nil_append] at e4
     have J6:∀ b,c7.ownBlock=some b→c1.ownBlock≠some b:=fun b hb e=>by rcases h9 with e1|e1 <;> rw [e1] at e <;> first|(cases e;have:=(c4.lt _ hb).2;omega)|(exact absurd e (s9 b hb))
     have z7:∀ b,c1.ownBlock=some b→b≠b1:=fun b hb=>by rcases h9 with e1|e1 <;> rw [e1] at hb <;> first|(cases hb;have:=a0.lt;omega)|(exact z3 b hb)
     have t1:∀ b,c1.ownBlock=some b→b≠a3:=fun b hb=>by rcases h9 with e1|e1 <;> rw [e1] at hb <;> first|(cases hb;have:=h8.lt;omega)|(exact z4 b hb)
     have z8:∀ b,c1.ownBlock=some b→b≠a6:=fun b hb=>by rcases h9 with e1|e1 <;> rw [e1] at hb <;> first|(cases hb;have:=a1.lt;omega)|(exact z5 b hb)
     have ao:∀ b,c1.ownBlock=some b→b≠a2:=fun b hb=>by rcases h9 with e1|e1 <;> rw [e1] at hb <;> first|(cases hb;have:=c9.lt;omega)|(exact z6 b hb)
     have aq:∀ b,c1.ownBlock=some b→b≠a5:=fun b hb=>by rcases h9 with e1|e1 <;> rw [e1] at hb <;> first|(cases hb;have:=a7.lt;omega)|(exact J3 b hb)
     have ar:∀ b,c1.ownBlock=some b→b≠b2:=fun b hb=>by rcases h9 with e1|e1 <;> rw [e1] at hb <;> first|(cases hb;have:=b3.lt;omega)|(exact J4 b hb)
     have o0:∀ b,c7.ownBlock=some b→b∈h1:=fun b hb=>g1 b (o0 b hb)
     have d3:b1∈h1:=g1 b1 rC
     have d4:a3∈h1:=g1 a3 rC
     have d5:a6∈h1:=g1 a6 rC
     have d6:a2∈h1:=g1 a2 rC
     have d7:a5∈h1:=g1 a5 rC
     have d8:b2∈h1:=g1 b2 rC
     have a4:=a4.mv v7
     have b7:=b7.mv v7
     have a0:=a0.keep o1 (by simp only [Option.mem_toList];exact fun e=>absurd rfl (z3 _ e))
     have h8:=h8.keep o1 (by simp only [Option.mem_toList];exact fun e=>absurd rfl (z4 _ e))
     have a1:=a1.keep o1 (by simp only [Option.mem_toList];exact fun e=>absurd rfl (z5 _ e))
     have c4:=c4.mv v7 o1 (fun b hb=>by simp only [Option.mem_toList];exact s9 b hb)
     have c9:=c9.keep o1 (by simp only [Option.mem_toList];exact fun e=>absurd rfl (z6 _ e))
     refine AA (AG (c1) rfl (AE (AC (AT (BF rfl (CU rfl rfl rfl) (Exists.intro _ (And.intro rfl (AA (AO 4 BR rfl (BE (BP (c1) rfl rfl e4.oneCell MQ (by repeat (assumption)) h8 oT S4 fun v8 S5 p9 o2 d9=>(?_))))))))))))
     have a4:=a4.mv p9
     have b7:=b7.mv p9
     have e4:=e4.mv p9 o2 (fun b hb=>AM (t1 b hb))
     have a0:=a0.keep o2 (AM c6)
     have a1:=a1.keep o2 (AM (Ne.symm c0))
     have c4:=c4.mv p9 o2 (fun b hb=>AM (s8 b hb))
     have c9:=c9.keep o2 (AM (Ne.symm g4))
     refine AE (AC (AF (cw_draw' 7 _ _ [EF (vP (some ⟨a3,4,none⟩)),EF c1,EF (vI no),EF (vP (some ⟨a2,0,none⟩)),EF (vP (some ⟨a2,0,none⟩)),EF (vP (some ⟨a2,0,none⟩)),EF (vA #[vI ((c.recs[no.toNat]!).no),vI ((c.recs[no.toNat]!).asked),vI ((c.recs[no.toNat]!).state),c7,d2])] kR kR kR kR rfl rfl ⟨kI,kI,kI,kI,kI,kI,kI,trivial⟩ ⟨?_,?_,?_,?_,?_,?_,?_,trivial⟩ ?_)))
     ·intro F1 w1 k1 hf hd
      obtain ⟨F2,rfl⟩:=BB (F:=F1) [(6,vP (some ⟨a3,0,none⟩))] ⟨hf 6 kR,trivial⟩
      exact AW rfl ((AO 4 BR rfl (⟨(Keep.refl _ _),rfl⟩)))
     ·intro F1 w1 k1 hf hd
      have k0:=(Keep.drew [] v8).trans k1
      have d9:=d9.keep k0 (by simp)
      obtain ⟨F2,rfl⟩:=BB (F:=F1) [(42,vP (some ⟨a3,4,none⟩))] ⟨hd 0 42 kR,trivial⟩
      exact AW rfl ((AR U23_ rfl (c1) rfl d9 rfl (⟨(Keep.refl _ _),rfl⟩)))
     ·intro F1 w1 k1 hf hd
      obtain ⟨F2,rfl⟩:=BB (F:=F1) [(1,vI no)] ⟨hf 1 kR,trivial⟩
      exact AW rfl ((AD (vI no) rfl (⟨(Keep.refl _ _),rfl⟩)))
     ·intro F1 w1 k1 hf hd
      obtain ⟨F2,rfl⟩:=BB (F:=F1) [(9,vP (some ⟨a2,0,none⟩))] ⟨hf 9 kR,trivial⟩
      exact AW rfl ((AD (vP (some ⟨a2,0,none⟩)) rfl (⟨(Keep.refl _ _),rfl⟩)))
     ·intro F1 w1 k1 hf hd
      obtain ⟨F2,rfl⟩:=BB (F:=F1) [(45,vP (some ⟨a2,0,none⟩))] ⟨hd 3 45 kR,trivial⟩
      exact AW rfl ((CC ⟨a2,0,none⟩ rfl (⟨(Keep.refl _ _),rfl⟩)))
     ·intro F1 w1 k1 hf hd
      obtain ⟨F2,rfl⟩:=BB (F:=F1) [(46,vP (some ⟨a2,0,none⟩))] ⟨hd 4 46 kR,trivial⟩
      exact AW rfl ((AO 0 DY rfl (⟨(Keep.refl _ _),rfl⟩)))
     ·intro F1 w1 k1 hf hd
      have k0:=(Keep.drew [] v8).trans k1
      have c9:=c9.keep k0 (by simp)
      obtain ⟨F2,rfl⟩:=BB (F:=F1) [(47,vP (some ⟨a2,0,none⟩))] ⟨hd 5 47 kR,trivial⟩
      exact AW rfl ((AX (vs:=[vI ((c.recs[no.toNat]!).no),vI ((c.recs[no.toNat]!).asked),vI ((c.recs[no.toNat]!).state),c7,d2]) U47_ rfl DC rfl c9 rfl (⟨(Keep.refl _ _),rfl⟩)))
     intro S6 S7 j4 o3 o4
     have S8:=S5.call j4
     have q0:Mv h1 v8 h1 S7:=Mv.of_keep j4
     have a4:=a4.mv q0
     have b7:=b7.mv q0
     have e4:=e4.mv q0 j4 (by simp)
     have a0:=a0.keep j4 (by simp)
     have d9:=d9.keep j4 (by simp)
     have a1:=a1.keep j4 (by simp)
     have c4:=c4.mv q0 j4 (by simp)
     obtain ⟨F2,rfl⟩:=BB (F:=S6) [(6,vP (some ⟨a3,0,none⟩)),(7,vP (some ⟨a6,0,none⟩)),(51, .tuple #[vN (.func 59) #[] #[vP (some ⟨a3,0,none⟩),vP (some ⟨a6,0,none⟩)]]),(43,c1),(44,vI no),(48,vA #[vI ((c.recs[no.toNat]!).no),vI ((c.recs[no.toNat]!).asked),vI ((c.recs[no.toNat]!).state),c7,d2])] ⟨o4 6 kR,o4 7 kR,o4 51 kR,o3 1 43 kR (by decide),o3 2 44 kR (by decide),o3 6 48 kR (by decide),trivial⟩
     clear o3 o4
     refine AA (FK U23_ DC .i64 no no.toNat rfl rfl oM e4 oM fun bZ k7=>(?_))
     obtain ⟨j5,S9,v9,z9,i0⟩:=c4.publish S8
     have t0:∀ b,c1.ownBlock=some b→b∈j5:=fun b hb=>i0 b (t0 b hb) ((fun b hb e=>J6 b e hb) b hb)
     have d3:b1∈j5:=i0 b1 (by repeat (assumption)) (fun e=>absurd rfl (I6 _ e))
     have d4:a3∈j5:=i0 a3 (by repeat (assumption)) (fun e=>absurd rfl (s8 _ e))
     have d5:a6∈j5:=i0 a6 (by repeat (assumption)) (fun e=>absurd rfl (I7 _ e))
     have d6:a2∈j5:=i0 a2 (by repeat (assumption)) (fun e=>absurd rfl (z1 _ e))
     have d7:a5∈j5:=i0 a5 (by repeat (assumption)) (fun e=>absurd rfl (I8 _ e))
     have d8:b2∈j5:=i0 b2 (by repeat (assumption)) (fun e=>absurd rfl (I9 _ e))
     have Z2:=z9.len_le
     have e4:=e4.mv v9 (Keep.refl [] _) (by simp)
     have a4:=a4.mv v9
     have a0:=a0.keep (Keep.refl [] _) (by simp)
     have b7:=b7.mv v9
     have d9:=d9.keep (Keep.refl [] _) (by simp)
     have a1:=a1.keep (Keep.refl [] _) (by simp)
     refine BE (GN (⟨(c.recs[no.toNat]!).no,(c.recs[no.toNat]!).asked,(c.recs[no.toNat]!).state,((c.recs[no.toNat]!).approved).take (tw ((c.recs[no.toNat]!).approved) guardian)++([guardian])++((c.recs[no.toNat]!).approved).drop (tw ((c.recs[no.toNat]!).approved) guardian),(c.recs[no.toNat]!).vetoed⟩:Recovery) (by decide) DC rfl rfl e4 k7 (t0 _ k7) oM ⟨_,_,rfl,z9,a4⟩ S9 fun ca T0 T1 w0 f2=>(?_))
     have a0:=a0.keep w0 (by simp only [List.mem_singleton];exact fun e=>absurd e.symm (z7 _ k7))
     have b7:=b7.mv T1
     have d9:=d9.keep w0 (by simp only [List.mem_singleton];exact fun e=>absurd e.symm (t1 _ k7))
     have a1:=a1.keep w0 (by simp only [List.mem_singleton];exact fun e=>absurd e.symm (z8 _ k7))
     refine AE (AC (AF (AB kR (AA (AX (vs:=[vI c.epoch,vI c.threshold,vI c.wait,f0,c1]) U25_ rfl AV rfl d9 rfl (BE (AS (vs:=[vI c.epoch,vI c.threshold,vI c.wait,f0,c1]) (.agg #[vI c.epoch,vI c.threshold,vI c.wait,f0,c1]) rfl rfl rfl AV (fun u hu=>by simp only [List.mem_cons,List.not_mem_nil,or_false] at hu;rcases hu with rfl|rfl|rfl|rfl|rfl <;> first|rfl|exact b7.oneCell|exact f2.oneCell) (by repeat (assumption)) d9 oT T0 fun cb T2 E2 w2 t2=>(?_))))))))
     have f2:=f2.mv E2 w2 (fun b hb=>AM (t1 b hb))
     have b7:=b7.mv E2
     have a0:=a0.keep w2 (AM c6)
     have a1:=a1.keep w2 (AM (Ne.symm c0))
     refine BE (BP (vI 0) rfl rfl rfl IH (by repeat (assumption)) a1 oT T2 fun cc T3 E3 w3 J7=>(?_))
     have f2:=f2.mv E3 w3 (fun b hb=>AM (z8 b hb))
     have b7:=b7.mv E3
     have a0:=a0.keep w3 (AM e8)
     have t2:=t2.keep w3 (AM c0)
     refine AE (AC (AT (IV (GQ [vP (some ⟨a3,0,none⟩),vP (some ⟨a6,0,none⟩)] 19 .returning rfl (fun h=>by cases h) rfl DJ Try.func59 rfl rfl oT rfl rfl (fun cd=>AF (AB kR (AA (AD (Value.nilIface) rfl (AA (o_neqNil' U20_ rfl (AE (AC (AP false rfl rfl (fun h=>by cases h) (fun _=>AZ (DF rfl (EN rfl) (Exists.intro _ (And.intro (BY rfl (CN (vs:=[vI c.epoch,vI c.threshold,vI c.wait,f0,c1]) rfl U25_ rfl AV rfl t2 rfl) (GK rfl U28_ rfl rfl J7 rfl)) (BQ (AA (AJ (vA #[vI c.epoch,vI c.threshold,vI c.wait,f0,c1]) rfl rfl (AA (AJ (vI 0) rfl rfl (BE (AS (vs:=[vI c.epoch,vI c.threshold,vI c.wait,f0,c1]) (.agg #[vI c.epoch,vI c.threshold,vI c.wait,f0,c1]) rfl rfl rfl AV (fun u hu=>by simp only [List.mem_cons,List.not_mem_nil,or_false] at hu;rcases hu with rfl|rfl|rfl|rfl|rfl <;> first|rfl|exact b7.oneCell|exact f2.oneCell) (by repeat (assumption)) a0 oT T3 fun ce E4 E5 T4 J8=>(?_)))))))))))))))))))))))))
     have b7:=b7.mv E5
     have f2:=f2.mv E5 T4 (fun b hb=>AM (z7 b hb))
     refine AA (AG (vI 0) rfl (AE (AC (AT (BF rfl (BY rfl (CN (vs:=[vI c.epoch,vI c.threshold,vI c.wait,f0,c1]) rfl U25_ rfl AV rfl J8 rfl) (CY rfl rfl)) (?_))))))
     have T5:((AK c no (AI c guardian)).1)=(⟨c.epoch,c.threshold,c.wait,c.guardians,c.recs.set no.toNat (⟨(c.recs[no.toNat]!).no,(c.recs[no.toNat]!).asked,(c.recs[no.toNat]!).state,((c.recs[no.toNat]!).approved).take (tw ((c.recs[no.toNat]!).approved) guardian)++([guardian])++((c.recs[no.toNat]!).approved).drop (tw ((c.recs[no.toNat]!).approved) guardian),(c.recs[no.toNat]!).vetoed⟩:Recovery)⟩:Circle):=by exact congrArg (fun p=>p.1) (show AK c no (AI c guardian)=_ from LO hok oM oM aS aS aS)
     have T6:((AK c no (AI c guardian)).2)=(0:Int):=by exact congrArg (fun p=>p.2) (show AK c no (AI c guardian)=_ from LO hok oM oM aS aS aS)
     exact ⟨_,rfl,E4.keep,by rw [T5,T6];exact ⟨[vI c.epoch,vI c.threshold,vI c.wait,f0,c1],rfl,⟨_,_,rfl,b7.out,(f2.pub E4)⟩⟩⟩
    have au:s5=false:=by simpa using s6
    refine AZ (AC (AF (AB kR (AA (GJ (E:=Enc.int) (xs:=[]) U22_ IA z_3 (by decide) [] [] [] rfl rfl rfl (Parts.nil _ _ _) oT v3 fun j6 T7 cf T8 g6 T9 w4 l8 J9=>(?_))))))
    have A0:∀ b,j6.ownBlock=some b→b≠b1:=fun b hb=>by have:=a0.lt;rw [g6] at hb;cases hb;omega
    have A1:∀ b,j6.ownBlock=some b→b≠a3:=fun b hb=>by have:=a8.lt;rw [g6] at hb;cases hb;omega
    have A2:∀ b,j6.ownBlock=some b→b≠a6:=fun b hb=>by have:=a1.lt;rw [g6] at hb;cases hb;omega
    have A3:∀ b,j6.ownBlock=some b→b≠a2:=fun b hb=>by have:=b0.lt;rw [g6] at hb;cases hb;omega
    have A4:∀ b,j6.ownBlock=some b→b≠a5:=fun b hb=>by have:=a7.lt;rw [g6] at hb;cases hb;omega
    have A5:∀ b,j6.ownBlock=some b→b≠b2:=fun b hb=>by have:=b3.lt;rw [g6] at hb;cases hb;omega
    have K0:∀ b,j6.ownBlock=some b→b∈(T7 :: (b2 :: (a5 :: (a2 :: (a6 :: (a3 :: (b1 :: []))))))):=fun b hb=>by rw [g6] at hb;cases hb;simp
    clear T8 g6
    have b4:=b4.mv w4
    have a9:=a9.mv w4
    have a4:=a4.mv w4
    have a0:=a0.keep l8 (by simp)
    have a8:=a8.keep l8 (by simp)
    have a1:=a1.keep l8 (by simp)
    have b0:=b0.keep l8 (by simp)
    have a7:=a7.keep l8 (by simp)
    have b3:=b3.keep l8 (by simp)
    refine AA (AD (d1) rfl (AA (DK (E:=Enc.int) (l:=[]) (m:=(c.recs[no.toNat]!).approved) U22_ i_3 rfl (by decide) rfl rfl J9 b4 (fun _ hb=>.inl hb) K0 (by have:=HD (CL (FV hok (k:=no.toNat) oM)).2.2;simp only [List.length_nil];omega) (by have:=HD (CL (FV hok (k:=no.toNat) oM)).2.2;simp only [List.length_nil,maxLen];omega) T9 fun e7 cg i7 t3 j0 h5 U0 E6 l9 k8=>(?_))))
    rw [List.nil_append] at k8
    have A6:∀ b,e7.ownBlock=some b→b≠b1:=fun b hb=>by rcases j0 with e1|e1 <;> rw [e1] at hb <;> first|(cases hb;have:=a0.lt;omega)|(exact A0 b hb)
    have A7:∀ b,e7.ownBlock=some b→b≠a3:=fun b hb=>by rcases j0 with e1|e1 <;> rw [e1] at hb <;> first|(cases hb;have:=a8.lt;omega)|(exact A1 b hb)
    have A8:∀ b,e7.ownBlock=some b→b≠a6:=fun b hb=>by rcases j0 with e1|e1 <;> rw [e1] at hb <;> first|(cases hb;have:=a1.lt;omega)|(exact A2 b hb)
    have A9:∀ b,e7.ownBlock=some b→b≠a2:=fun b hb=>by rcases j0 with e1|e1 <;> rw [e1] at hb <;> first|(cases hb;have:=b0.lt;omega)|(exact A3 b hb)
    have B0:∀ b,e7.ownBlock=some b→b≠a5:=fun b hb=>by rcases j0 with e1|e1 <;> rw [e1] at hb <;> first|(cases hb;have:=a7.lt;omega)|(exact A4 b hb)
    have B1:∀ b,e7.ownBlock=some b→b≠b2:=fun b hb=>by rcases j0 with e1|e1 <;> rw [e1] at hb <;> first|(cases hb;have:=b3.lt;omega)|(exact A5 b hb)
    have d3:b1∈i7:=h5 b1 (by repeat (constructor))
    have d4:a3∈i7:=h5 a3 (by repeat (constructor))
    have d5:a6∈i7:=h5 a6 (by repeat (constructor))
    have d6:a2∈i7:=h5 a2 (by repeat (constructor))
    have d7:a5∈i7:=h5 a5 (by repeat (constructor))
    have d8:b2∈i7:=h5 b2 (by repeat (constructor))
    have a9:=a9.mv E6
    have a4:=a4.mv E6
    have a0:=a0.keep l9 (by simp only [Option.mem_toList];exact fun e=>absurd rfl (A0 _ e))
    have a8:=a8.keep l9 (by simp only [Option.mem_toList];exact fun e=>absurd rfl (A1 _ e))
    have a1:=a1.keep l9 (by simp only [Option.mem_toList];exact fun e=>absurd rfl (A2 _ e))
    have b0:=b0.keep l9 (by simp only [Option.mem_toList];exact fun e=>absurd rfl (A3 _ e))
    have a7:=a7.keep l9 (by simp only [Option.mem_toList];exact fun e=>absurd rfl (A4 _ e))
    have b3:=b3.keep l9 (by simp only [Option.mem_toList];exact fun e=>absurd rfl (A5 _ e))
    refine AA (AG (e7) rfl (AE (AC (AT (BF rfl (CU rfl rfl rfl) (Exists.intro _ (And.intro rfl (AA (AD (vI ((tw ((c.recs[no.toNat]!).approved) guardian:Nat):Int)) rfl (AA (AD (vI guardian) rfl (AA (GJ (E:=Enc.int) (xs:=[.tmp 26]) U22_ IA z_3 (by decide) [vI guardian] [[vI guardian]] [guardian] rfl rfl rfl (Parts.cons rfl rfl (Parts.nil _ _ _)) oT U0 fun e3 E7 ch U1 f3 U2 w5 j7 B2=>(?_))))))))))))))
    have av:∀ b,e3.ownBlock=some b→b≠b1:=fun b hb=>by have:=a0.lt;rw [f3] at hb;cases hb;omega
    have aw:∀ b,e3.ownBlock=some b→b≠a3:=fun b hb=>by have:=a8.lt;rw [f3] at hb;cases hb;omega
    have ax:∀ b,e3.ownBlock=some b→b≠a6:=fun b hb=>by have:=a1.lt;rw [f3] at hb;cases hb;omega
    have ay:∀ b,e3.ownBlock=some b→b≠a2:=fun b hb=>by have:=b0.lt;rw [f3] at hb;cases hb;omega
    have az:∀ b,e3.ownBlock=some b→b≠a5:=fun b hb=>by have:=a7.lt;rw [f3] at hb;cases hb;omega
    have aA:∀ b,e3.ownBlock=some b→b≠b2:=fun b hb=>by have:=b3.lt;rw [f3] at hb;cases hb;omega
    have t4:∀ b,e7.ownBlock=some b→e3.ownBlock≠some b:=fun b hb=>by have:=(k8.lt b hb).2;rw [f3];intro e;cases e;omega
    have ne1697':∀ b,e3.ownBlock=some b→e7.ownBlock≠some b:=fun b hb e=>t4 b e hb
    have t5:∀ b,e3.ownBlock=some b→b∈(E7 :: i7):=fun b hb=>by rw [f3] at hb;cases hb;simp
    clear U1 f3
    have t3:∀ b,e7.ownBlock=some b→b∈(E7 :: i7):=fun b hb=>List.mem_cons_of_mem _ (t3 b hb)
    have k8:=k8.mv w5 j7 (by simp)
    have a9:=a9.mv w5
    have a4:=a4.mv w5
    have a0:=a0.keep j7 (by simp)
    have a8:=a8.keep j7 (by simp)
    have a1:=a1.keep j7 (by simp)
    have b0:=b0.keep j7 (by simp)
    have a7:=a7.keep j7 (by simp)
    have b3:=b3.keep j7 (by simp)
    refine AA (DO [e7,vI ((tw ((c.recs[no.toNat]!).approved) guardian:Nat):Int),e3] enter_62 rfl (Calls.mono (NN e7 e3 ((c.recs[no.toNat]!).approved) ([guardian]) (tw ((c.recs[no.toNat]!).approved) guardian) U2 k8 B2 t3 t5 t4 (by simp) (tw_le _ _) (by have:=HD (CL (FV hok (k:=no.toNat) oM)).2.2;simp only [List.length_cons,List.length_nil];omega) (by have:=HD (CL (FV hok (k:=no.toNat) oM)).2.2;simp only [List.length_cons,List.length_nil,maxLen];omega)) (fun e_ ci hR_=>?_)))
    obtain ⟨c8,h2,rfl,o5,i1,g2,U3,E8,m0,c5⟩:=hR_
    refine BQ ?_
    have aB:∀ b,e3.ownBlock=some b→c8.ownBlock≠some b:=fun b hb e=>(i1 b e).elim (fun e1=>((fun b hb e=>t4 b e hb) b hb e1)) (fun e1=>by have:=(B2.lt b hb).2;omega)
    have K1:∀ b,c8.ownBlock=some b→b≠b1:=fun b hb=>(i1 b hb).elim (fun e1=>(A6 b e1)) (fun e1=>by have:=a0.lt;omega)
    have t6:∀ b,c8.ownBlock=some b→b≠a3:=fun b hb=>(i1 b hb).elim (fun e1=>(A7 b e1)) (fun e1=>by have:=a8.lt;omega)
    have K2:∀ b,c8.ownBlock=some b→b≠a6:=fun b hb=>(i1 b hb).elim (fun e1=>(A8 b e1)) (fun e1=>by have:=a1.lt;omega)
    have B3:∀ b,c8.ownBlock=some b→b≠a2:=fun b hb=>(i1 b hb).elim (fun e1=>(A9 b e1)) (fun e1=>by have:=b0.lt;omega)
    have K3:∀ b,c8.ownBlock=some b→b≠a5:=fun b hb=>(i1 b hb).elim (fun e1=>(B0 b e1)) (fun e1=>by have:=a7.lt;omega)
    have K4:∀ b,c8.ownBlock=some b→b≠b2:=fun b hb=>(i1 b hb).elim (fun e1=>(B1 b e1)) (fun e1=>by have:=b3.lt;omega)
    have t5:∀ b,e3.ownBlock=some b→b∈h2:=fun b hb=>g2 b (t5 b hb)
    have d3:b1∈h2:=g2 b1 rC
    have d4:a3∈h2:=g2 a3 rC
    have d5:a6∈h2:=g2 a6 rC
    have d6:a2∈h2:=g2 a2 rC
    have d7:a5∈h2:=g2 a5 rC
    have d8:b2∈h2:=g2 b2 rC
    have a9:=a9.mv E8
    have a4:=a4.mv E8
    have a0:=a0.keep m0 (by simp only [Option.mem_toList];exact fun e=>absurd rfl (A6 _ e))
    have a8:=a8.keep m0 (by simp only [Option.mem_toList];exact fun e=>absurd rfl (A7 _ e))
    have a1:=a1.keep m0 (by simp only [Option.mem_toList];exact fun e=>absurd rfl (A8 _ e))
    have b0:=b0.keep m0 (by simp only [Option.mem_toList];exact fun e=>absurd rfl (A9 _ e))
    have a7:=a7.keep m0 (by simp only [Option.mem_toList];exact fun e=>absurd rfl (B0 _ e))
    have b3:=b3.keep m0 (by simp only [Option.mem_toList];exact fun e=>absurd rfl (B1 _ e))
    refine AA (CC ⟨a2,0,none⟩ rfl (AA (AO 0 DY rfl (AA (AO 3 HF rfl (BE (BP (c8) rfl rfl c5.oneCell s_22 (by repeat (assumption)) b0 oT U3 fun cj U4 w6 m2 d0=>(?_))))))))
    have c5:=c5.mv w6 m2 (fun b hb=>AM (B3 b hb))
    have a9:=a9.mv w6
    have a4:=a4.mv w6
    have a0:=a0.keep m2 (AM y5)
    have a8:=a8.keep m2 (AM g4)
    have a1:=a1.keep m2 (AM y6)
    have a7:=a7.keep m2 (AM (Ne.symm y7))
    have b3:=b3.keep m2 (AM (Ne.symm k4))
    refine AE (DF rfl (EN rfl) (Exists.intro _ (And.intro rfl (AE (DF rfl (EN rfl) (BQ (AE (DF rfl (EN rfl) (BQ (AE (DF rfl (EN rfl) (BQ (AE (AC (AF (AB kR (AA (CH U25_ rfl AV rfl a9 fun aC K5=>(?_)))))))))))))))))))
    obtain ⟨f4,E9,rfl,b8,B4⟩:=K5
    have:=b8.len_le
    have:=B4.len_le
    refine BE (AS (vs:=[vI c.epoch,vI c.threshold,vI c.wait,f4,E9]) (.agg #[vI c.epoch,vI c.threshold,vI c.wait,f4,E9]) rfl rfl rfl AV (fun u hu=>by simp only [List.mem_cons,List.not_mem_nil,or_false] at hu;rcases hu with rfl|rfl|rfl|rfl|rfl <;> first|rfl|exact b8.oneCell|exact B4.oneCell) (by repeat (assumption)) a8 oT U4 fun ck U5 q1 m3 i2=>(?_))
    have a9:=a9.mv q1
    have a4:=a4.mv q1
    have b8:=b8.mv q1
    have a0:=a0.keep m3 (AM c6)
    have a1:=a1.keep m3 (AM (Ne.symm c0))
    have c5:=c5.mv q1 m3 (fun b hb=>AM (t6 b hb))
    have d0:=d0.keep m3 (AM (Ne.symm g4))
    have a7:=a7.keep m3 (AM (Ne.symm r6))
    have b3:=b3.keep m3 (AM (Ne.symm i9))
    refine AE (AC (AF (AB kR (AA (BG 4 BR (c.recs) rfl a9 (fun _ _ _ h=>BO h) fun cm K6=>(AA (CD U23_ rfl rfl K6 fun w7 k9=>(?_))))))))
    have:=k9.len_le
    refine AA (FY [w7] _ GG rfl (BC 8 Try.func31 rfl rfl oT (fun cn=>AF (AB kR (AA (AG (nS) rfl (AE (AC (AF (AF (AB kR (AA (AD (w7) rfl (AA (GO U23_ rfl rfl k9 oM (AE (AC (AP false rfl rfl (fun h=>by cases h) (fun _=>AZ (AC (AF (AB kR (AA (GJ (E:=Enc.recovery) (xs:=[]) U23_ DC HH (by decide) [] [] [] rfl rfl rfl (Parts.nil _ _ _) oT U5 fun h3 F3 co U6 f5 U7 q2 j8 K7=>(?_)))))))))))))))))))))))) (fun _ _ h=>h))
    have B5:∀ b,h3.ownBlock=some b→b≠b1:=fun b hb=>by have:=a0.lt;rw [f5] at hb;cases hb;omega
    have B6:∀ b,h3.ownBlock=some b→b≠a3:=fun b hb=>by have:=i2.lt;rw [f5] at hb;cases hb;omega
    have B7:∀ b,h3.ownBlock=some b→b≠a6:=fun b hb=>by have:=a1.lt;rw [f5] at hb;cases hb;omega
    have B8:∀ b,h3.ownBlock=some b→b≠a2:=fun b hb=>by have:=d0.lt;rw [f5] at hb;cases hb;omega
    have K8:∀ b,h3.ownBlock=some b→b≠a5:=fun b hb=>by have:=a7.lt;rw [f5] at hb;cases hb;omega
    have K9:∀ b,h3.ownBlock=some b→b≠b2:=fun b hb=>by have:=b3.lt;rw [f5] at hb;cases hb;omega
    have t7:∀ b,c8.ownBlock=some b→h3.ownBlock≠some b:=fun b hb=>by have:=(c5.lt b hb).2;rw [f5];intro e;cases e;omega
    have ne1752':∀ b,h3.ownBlock=some b→c8.ownBlock≠some b:=fun b hb e=>t7 b e hb
    have L0:∀ b,h3.ownBlock=some b→b∈(F3 :: h2):=fun b hb=>by rw [f5] at hb;cases hb;simp
    clear U6 f5
    have o5:∀ b,c8.ownBlock=some b→b∈(F3 :: h2):=fun b hb=>List.mem_cons_of_mem _ (o5 b hb)
    have k9:=k9.mv q2
    have a4:=a4.mv q2
    have b8:=b8.mv q2
    have a0:=a0.keep j8 (by simp)
    have i2:=i2.keep j8 (by simp)
    have a1:=a1.keep j8 (by simp)
    have c5:=c5.mv q2 j8 (by simp)
    have d0:=d0.keep j8 (by simp)
    have a7:=a7.keep j8 (by simp)
    have b3:=b3.keep j8 (by simp)
    refine AA (AD (w7) rfl (AA (DK (E:=Enc.recovery) (l:=[]) (m:=c.recs) U23_ LE rfl (by decide) rfl rfl K7 k9 (fun _ hb=>.inl hb) L0 (by simp;omega) (by simp [maxLen];omega) U7 fun c2 cp h4 t8 i3 g3 U8 w8 o6 e5=>(?_))))
    rw [List.nil_append] at e5
    have L1:∀ b,c8.ownBlock=some b→c2.ownBlock≠some b:=fun b hb e=>by rcases i3 with e1|e1 <;> rw [e1] at e <;> first|(cases e;have:=(c5.lt _ hb).2;omega)|(exact absurd e (t7 b hb))
    have B9:∀ b,c2.ownBlock=some b→b≠b1:=fun b hb=>by rcases i3 with e1|e1 <;> rw [e1] at hb <;> first|(cases hb;have:=a0.lt;omega)|(exact B5 b hb)
    have t9:∀ b,c2.ownBlock=some b→b≠a3:=fun b hb=>by rcases i3 with e1|e1 <;> rw [e1] at hb <;> first|(cases hb;have:=i2.lt;omega)|(exact B6 b hb)
    have C0:∀ b,c2.ownBlock=some b→b≠a6:=fun b hb=>by rcases i3 with e1|e1 <;> rw [e1] at hb <;> first|(cases hb;have:=a1.lt;omega)|(exact B7 b hb)
    have aD:∀ b,c2.ownBlock=some b→b≠a2:=fun b hb=>by rcases i3 with e1|e1 <;> rw [e1] at hb <;> first|(cases hb;have:=d0.lt;omega)|(exact B8 b hb)
    have aE:∀ b,c2.ownBlock=some b→b≠a5:=fun b hb=>by rcases i3 with e1|e1 <;> rw [e1] at hb <;> first|(cases hb;have:=a7.lt;omega)|(exact K8 b hb)
    have aF:∀ b,c2.ownBlock=some b→b≠b2:=fun b hb=>by rcases i3 with e1|e1 <;> rw [e1] at hb <;> first|(cases hb;have:=b3.lt;omega)|(exact K9 b hb)
    have o5:∀ b,c8.ownBlock=some b→b∈h4:=fun b hb=>g3 b (o5 b hb)
    have d3:b1∈h4:=g3 b1 rC
    have d4:a3∈h4:=g3 a3 rC
    have d5:a6∈h4:=g3 a6 rC
    have d6:a2∈h4:=g3 a2 rC
    have d7:a5∈h4:=g3 a5 rC
    have d8:b2∈h4:=g3 b2 rC
    have a4:=a4.mv w8
    have b8:=b8.mv w8
    have a0:=a0.keep o6 (by simp only [Option.mem_toList];exact fun e=>absurd rfl (B5 _ e))
    have i2:=i2.keep o6 (by simp only [Option.mem_toList];exact fun e=>absurd rfl (B6 _ e))
    have a1:=a1.keep o6 (by simp only [Option.mem_toList];exact fun e=>absurd rfl (B7 _ e))
    have c5:=c5.mv w8 o6 (fun b hb=>by simp only [Option.mem_toList];exact t7 b hb)
    have d0:=d0.keep o6 (by simp only [Option.mem_toList];exact fun e=>absurd rfl (B8 _ e))
    refine AA (AG (c2) rfl (AE (AC (AT (BF rfl (CU rfl rfl rfl) (Exists.intro _ (And.intro rfl (AA (AO 4 BR rfl (BE (BP (c2) rfl rfl e5.oneCell MQ (by repeat (assumption)) i2 oT U8 fun w9 U9 q3 o7 e0=>(?_))))))))))))
    have a4:=a4.mv q3
    have b8:=b8.mv q3
    have e5:=e5.mv q3 o7 (fun b hb=>AM (t9 b hb))
    have a0:=a0.keep o7 (AM c6)
    have a1:=a1.keep o7 (AM (Ne.symm c0))
    have c5:=c5.mv q3 o7 (fun b hb=>AM (t6 b hb))
    have d0:=d0.keep o7 (AM (Ne.symm g4))
    refine AE (AC (AF (cw_draw' 7 _ _ [EF (vP (some ⟨a3,4,none⟩)),EF c2,EF (vI no),EF (vP (some ⟨a2,0,none⟩)),EF (vP (some ⟨a2,0,none⟩)),EF (vP (some ⟨a2,0,none⟩)),EF (vA #[vI ((c.recs[no.toNat]!).no),vI ((c.recs[no.toNat]!).asked),vI ((c.recs[no.toNat]!).state),c8,d2])] kR kR kR kR rfl rfl ⟨kI,kI,kI,kI,kI,kI,kI,trivial⟩ ⟨?_,?_,?_,?_,?_,?_,?_,trivial⟩ ?_)))
    ·intro F1 w1 k1 hf hd
     obtain ⟨F2,rfl⟩:=BB (F:=F1) [(6,vP (some ⟨a3,0,none⟩))] ⟨hf 6 kR,trivial⟩
     exact AW rfl ((AO 4 BR rfl (⟨(Keep.refl _ _),rfl⟩)))
    ·intro F1 w1 k1 hf hd
     have k0:=(Keep.drew [] w9).trans k1
     have e0:=e0.keep k0 (by simp)
     obtain ⟨F2,rfl⟩:=BB (F:=F1) [(42,vP (some ⟨a3,4,none⟩))] ⟨hd 0 42 kR,trivial⟩
     exact AW rfl ((AR U23_ rfl (c2) rfl e0 rfl (⟨(Keep.refl _ _),rfl⟩)))
    ·intro F1 w1 k1 hf hd
     obtain ⟨F2,rfl⟩:=BB (F:=F1) [(1,vI no)] ⟨hf 1 kR,trivial⟩
     exact AW rfl ((AD (vI no) rfl (⟨(Keep.refl _ _),rfl⟩)))
    ·intro F1 w1 k1 hf hd
     obtain ⟨F2,rfl⟩:=BB (F:=F1) [(9,vP (some ⟨a2,0,none⟩))] ⟨hf 9 kR,trivial⟩
     exact AW rfl ((AD (vP (some ⟨a2,0,none⟩)) rfl (⟨(Keep.refl _ _),rfl⟩)))
    ·intro F1 w1 k1 hf hd
     obtain ⟨F2,rfl⟩:=BB (F:=F1) [(45,vP (some ⟨a2,0,none⟩))] ⟨hd 3 45 kR,trivial⟩
     exact AW rfl ((CC ⟨a2,0,none⟩ rfl (⟨(Keep.refl _ _),rfl⟩)))
    ·intro F1 w1 k1 hf hd
     obtain ⟨F2,rfl⟩:=BB (F:=F1) [(46,vP (some ⟨a2,0,none⟩))] ⟨hd 4 46 kR,trivial⟩
     exact AW rfl ((AO 0 DY rfl (⟨(Keep.refl _ _),rfl⟩)))
    ·intro F1 w1 k1 hf hd
     have k0:=(Keep.drew [] w9).trans k1
     have d0:=d0.keep k0 (by simp)
     obtain ⟨F2,rfl⟩:=BB (F:=F1) [(47,vP (some ⟨a2,0,none⟩))] ⟨hd 5 47 kR,trivial⟩
     exact AW rfl ((AX (vs:=[vI ((c.recs[no.toNat]!).no),vI ((c.recs[no.toNat]!).asked),vI ((c.recs[no.toNat]!).state),c8,d2]) U47_ rfl DC rfl d0 rfl (⟨(Keep.refl _ _),rfl⟩)))
    intro V0 V1 j9 o8 o9
    have V2:=U9.call j9
    have q4:Mv h4 w9 h4 V1:=Mv.of_keep j9
    have a4:=a4.mv q4
    have b8:=b8.mv q4
    have e5:=e5.mv q4 j9 (by simp)
    have a0:=a0.keep j9 (by simp)
    have e0:=e0.keep j9 (by simp)
    have a1:=a1.keep j9 (by simp)
    have c5:=c5.mv q4 j9 (by simp)
    obtain ⟨F2,rfl⟩:=BB (F:=V0) [(6,vP (some ⟨a3,0,none⟩)),(7,vP (some ⟨a6,0,none⟩)),(51, .tuple #[vN (.func 59) #[] #[vP (some ⟨a3,0,none⟩),vP (some ⟨a6,0,none⟩)]]),(43,c2),(44,vI no),(48,vA #[vI ((c.recs[no.toNat]!).no),vI ((c.recs[no.toNat]!).asked),vI ((c.recs[no.toNat]!).state),c8,d2])] ⟨o9 6 kR,o9 7 kR,o9 51 kR,o8 1 43 kR (by decide),o8 2 44 kR (by decide),o8 6 48 kR (by decide),trivial⟩
    clear o8 o9
    refine AA (FK U23_ DC .i64 no no.toNat rfl rfl oM e5 oM fun cq l0=>(?_))
    obtain ⟨k2,V3,x1,C1,i4⟩:=c5.publish V2
    have t8:∀ b,c2.ownBlock=some b→b∈k2:=fun b hb=>i4 b (t8 b hb) ((fun b hb e=>L1 b e hb) b hb)
    have d3:b1∈k2:=i4 b1 (by repeat (assumption)) (fun e=>absurd rfl (K1 _ e))
    have d4:a3∈k2:=i4 a3 (by repeat (assumption)) (fun e=>absurd rfl (t6 _ e))
    have d5:a6∈k2:=i4 a6 (by repeat (assumption)) (fun e=>absurd rfl (K2 _ e))
    have d6:a2∈k2:=i4 a2 (by repeat (assumption)) (fun e=>absurd rfl (B3 _ e))
    have d7:a5∈k2:=i4 a5 (by repeat (assumption)) (fun e=>absurd rfl (K3 _ e))
    have d8:b2∈k2:=i4 b2 (by repeat (assumption)) (fun e=>absurd rfl (K4 _ e))
    have Z3:=C1.len_le
    have e5:=e5.mv x1 (Keep.refl [] _) (by simp)
    have a4:=a4.mv x1
    have a0:=a0.keep (Keep.refl [] _) (by simp)
    have b8:=b8.mv x1
    have e0:=e0.keep (Keep.refl [] _) (by simp)
    have a1:=a1.keep (Keep.refl [] _) (by simp)
    refine BE (GN (⟨(c.recs[no.toNat]!).no,(c.recs[no.toNat]!).asked,(c.recs[no.toNat]!).state,((c.recs[no.toNat]!).approved).take (tw ((c.recs[no.toNat]!).approved) guardian)++([guardian])++((c.recs[no.toNat]!).approved).drop (tw ((c.recs[no.toNat]!).approved) guardian),(c.recs[no.toNat]!).vetoed⟩:Recovery) (by decide) DC rfl rfl e5 l0 (t8 _ l0) oM ⟨_,_,rfl,C1,a4⟩ V3 fun cr V4 V5 x2 f6=>(?_))
    have a0:=a0.keep x2 (by simp only [List.mem_singleton];exact fun e=>absurd e.symm (B9 _ l0))
    have b8:=b8.mv V5
    have e0:=e0.keep x2 (by simp only [List.mem_singleton];exact fun e=>absurd e.symm (t9 _ l0))
    have a1:=a1.keep x2 (by simp only [List.mem_singleton];exact fun e=>absurd e.symm (C0 _ l0))
    refine AE (AC (AF (AB kR (AA (AX (vs:=[vI c.epoch,vI c.threshold,vI c.wait,f4,c2]) U25_ rfl AV rfl e0 rfl (BE (AS (vs:=[vI c.epoch,vI c.threshold,vI c.wait,f4,c2]) (.agg #[vI c.epoch,vI c.threshold,vI c.wait,f4,c2]) rfl rfl rfl AV (fun u hu=>by simp only [List.mem_cons,List.not_mem_nil,or_false] at hu;rcases hu with rfl|rfl|rfl|rfl|rfl <;> first|rfl|exact b8.oneCell|exact f6.oneCell) (by repeat (assumption)) e0 oT V4 fun cs V6 F4 x3 u0=>(?_))))))))
    have f6:=f6.mv F4 x3 (fun b hb=>AM (t9 b hb))
    have b8:=b8.mv F4
    have a0:=a0.keep x3 (AM c6)
    have a1:=a1.keep x3 (AM (Ne.symm c0))
    refine BE (BP (vI 0) rfl rfl rfl IH (by repeat (assumption)) a1 oT V6 fun ct V7 F5 x4 L2=>(?_))
    have f6:=f6.mv F5 x4 (fun b hb=>AM (C0 b hb))
    have b8:=b8.mv F5
    have a0:=a0.keep x4 (AM e8)
    have u0:=u0.keep x4 (AM c0)
    refine AE (AC (AT (IV (GQ [vP (some ⟨a3,0,none⟩),vP (some ⟨a6,0,none⟩)] 19 .returning rfl (fun h=>by cases h) rfl DJ Try.func59 rfl rfl oT rfl rfl (fun cu=>AF (AB kR (AA (AD (Value.nilIface) rfl (AA (o_neqNil' U20_ rfl (AE (AC (AP false rfl rfl (fun h=>by cases h) (fun _=>AZ (DF rfl (EN rfl) (Exists.intro _ (And.intro (BY rfl (CN (vs:=[vI c.epoch,vI c.threshold,vI c.wait,f4,c2]) rfl U25_ rfl AV rfl u0 rfl) (GK rfl U28_ rfl rfl L2 rfl)) (BQ (AA (AJ (vA #[vI c.epoch,vI c.threshold,vI c.wait,f4,c2]) rfl rfl (AA (AJ (vI 0) rfl rfl (BE (AS (vs:=[vI c.epoch,vI c.threshold,vI c.wait,f4,c2]) (.agg #[vI c.epoch,vI c.threshold,vI c.wait,f4,c2]) rfl rfl rfl AV (fun u hu=>by simp only [List.mem_cons,List.not_mem_nil,or_false] at hu;rcases hu with rfl|rfl|rfl|rfl|rfl <;> first|rfl|exact b8.oneCell|exact f6.oneCell) (by repeat (assumption)) a0 oT V7 fun cv F6 F7 V8 L3=>(?_)))))))))))))))))))))))))
    have b8:=b8.mv F7
    have f6:=f6.mv F7 V8 (fun b hb=>AM (B9 b hb))
    refine AA (AG (vI 0) rfl (AE (AC (AT (BF rfl (BY rfl (CN (vs:=[vI c.epoch,vI c.threshold,vI c.wait,f4,c2]) rfl U25_ rfl AV rfl L3 rfl) (CY rfl rfl)) (?_))))))
    have V9:((AK c no (AI c guardian)).1)=(⟨c.epoch,c.threshold,c.wait,c.guardians,c.recs.set no.toNat (⟨(c.recs[no.toNat]!).no,(c.recs[no.toNat]!).asked,(c.recs[no.toNat]!).state,((c.recs[no.toNat]!).approved).take (tw ((c.recs[no.toNat]!).approved) guardian)++([guardian])++((c.recs[no.toNat]!).approved).drop (tw ((c.recs[no.toNat]!).approved) guardian),(c.recs[no.toNat]!).vetoed⟩:Recovery)⟩:Circle):=by exact congrArg (fun p=>p.1) (show AK c no (AI c guardian)=_ from LO hok oM oM aS aS aS)
    have W0:((AK c no (AI c guardian)).2)=(0:Int):=by exact congrArg (fun p=>p.2) (show AK c no (AI c guardian)=_ from LO hok oM oM aS aS aS)
    exact ⟨_,rfl,F6.keep,by rw [V9,W0];exact ⟨[vI c.epoch,vI c.threshold,vI c.wait,f4,c2],rfl,⟨_,_,rfl,b8.out,(f6.pub F6)⟩⟩⟩
   have aG:(KW ((c.recs[no.toNat]!).approved) guardian)=true:=by simpa using s4
   refine AZ (DF rfl (EN rfl) (Exists.intro _ (And.intro rfl (AE (DF rfl (EN rfl) (BQ (AE (DF rfl (EN rfl) (BQ (AE (DF rfl (EN rfl) (BQ (AE (AC (AF (AB kR (AA (CH U25_ rfl AV rfl a9 fun aH L4=>(?_)))))))))))))))))))
   obtain ⟨f7,F8,rfl,b9,C2⟩:=L4
   have:=b9.len_le
   have:=C2.len_le
   refine BE (AS (vs:=[vI c.epoch,vI c.threshold,vI c.wait,f7,F8]) (.agg #[vI c.epoch,vI c.threshold,vI c.wait,f7,F8]) rfl rfl rfl AV (fun u hu=>by simp only [List.mem_cons,List.not_mem_nil,or_false] at hu;rcases hu with rfl|rfl|rfl|rfl|rfl <;> first|rfl|exact b9.oneCell|exact C2.oneCell) (by repeat (constructor)) a8 oT v3 fun cw W1 q5 p0 i5=>(?_))
   have a9:=a9.mv q5
   have b4:=b4.mv q5
   have a4:=a4.mv q5
   have b9:=b9.mv q5
   have a0:=a0.keep p0 (AM c6)
   have a1:=a1.keep p0 (AM (Ne.symm c0))
   have b0:=b0.keep p0 (AM (Ne.symm g4))
   have a7:=a7.keep p0 (AM (Ne.symm r6))
   have b3:=b3.keep p0 (AM (Ne.symm i9))
   refine AE (AC (AF (AB kR (AA (BG 4 BR (c.recs) rfl a9 (fun _ _ _ h=>BO h) fun cx L5=>(AA (CD U23_ rfl rfl L5 fun x5 l1=>(?_))))))))
   have:=l1.len_le
   refine AA (FY [x5] _ GG rfl (BC 8 Try.func31 rfl rfl oT (fun cy=>AF (AB kR (AA (AG (nS) rfl (AE (AC (AF (AF (AB kR (AA (AD (x5) rfl (AA (GO U23_ rfl rfl l1 oM (AE (AC (AP false rfl rfl (fun h=>by cases h) (fun _=>AZ (AC (AF (AB kR (AA (GJ (E:=Enc.recovery) (xs:=[]) U23_ DC HH (by decide) [] [] [] rfl rfl rfl (Parts.nil _ _ _) oT W1 fun k3 W2 cz W3 g7 W4 q6 m4 L6=>(?_)))))))))))))))))))))))) (fun _ _ h=>h))
   have C3:∀ b,k3.ownBlock=some b→b≠b1:=fun b hb=>by have:=a0.lt;rw [g7] at hb;cases hb;omega
   have C4:∀ b,k3.ownBlock=some b→b≠a3:=fun b hb=>by have:=i5.lt;rw [g7] at hb;cases hb;omega
   have C5:∀ b,k3.ownBlock=some b→b≠a6:=fun b hb=>by have:=a1.lt;rw [g7] at hb;cases hb;omega
   have C6:∀ b,k3.ownBlock=some b→b≠a2:=fun b hb=>by have:=b0.lt;rw [g7] at hb;cases hb;omega
   have L7:∀ b,k3.ownBlock=some b→b≠a5:=fun b hb=>by have:=a7.lt;rw [g7] at hb;cases hb;omega
   have L8:∀ b,k3.ownBlock=some b→b≠b2:=fun b hb=>by have:=b3.lt;rw [g7] at hb;cases hb;omega
   have L9:∀ b,k3.ownBlock=some b→b∈(W2 :: (b2 :: (a5 :: (a2 :: (a6 :: (a3 :: (b1 :: []))))))):=fun b hb=>by rw [g7] at hb;cases hb;simp
   clear W3 g7
   have l1:=l1.mv q6
   have b4:=b4.mv q6
   have a4:=a4.mv q6
   have b9:=b9.mv q6
   have a0:=a0.keep m4 (by simp)
   have i5:=i5.keep m4 (by simp)
   have a1:=a1.keep m4 (by simp)
   have b0:=b0.keep m4 (by simp)
   have a7:=a7.keep m4 (by simp)
   have b3:=b3.keep m4 (by simp)
   refine AA (AD (x5) rfl (AA (DK (E:=Enc.recovery) (l:=[]) (m:=c.recs) U23_ LE rfl (by decide) rfl rfl L6 l1 (fun _ hb=>.inl hb) L9 (by simp;omega) (by simp [maxLen];omega) W4 fun c3 cA i8 M0 j1 h6 W5 x6 q7 g8=>(?_))))
   rw [List.nil_append] at g8
   have C7:∀ b,c3.ownBlock=some b→b≠b1:=fun b hb=>by rcases j1 with e1|e1 <;> rw [e1] at hb <;> first|(cases hb;have:=a0.lt;omega)|(exact C3 b hb)
   have u1:∀ b,c3.ownBlock=some b→b≠a3:=fun b hb=>by rcases j1 with e1|e1 <;> rw [e1] at hb <;> first|(cases hb;have:=i5.lt;omega)|(exact C4 b hb)
   have C8:∀ b,c3.ownBlock=some b→b≠a6:=fun b hb=>by rcases j1 with e1|e1 <;> rw [e1] at hb <;> first|(cases hb;have:=a1.lt;omega)|(exact C5 b hb)
   have aI:∀ b,c3.ownBlock=some b→b≠a2:=fun b hb=>by rcases j1 with e1|e1 <;> rw [e1] at hb <;> first|(cases hb;have:=b0.lt;omega)|(exact C6 b hb)
   have aJ:∀ b,c3.ownBlock=some b→b≠a5:=fun b hb=>by rcases j1 with e1|e1 <;> rw [e1] at hb <;> first|(cases hb;have:=a7.lt;omega)|(exact L7 b hb)
   have aK:∀ b,c3.ownBlock=some b→b≠b2:=fun b hb=>by rcases j1 with e1|e1 <;> rw [e1] at hb <;> first|(cases hb;have:=b3.lt;omega)|(exact L8 b hb)
   have d3:b1∈i8:=h6 b1 (by repeat (constructor))
   have d4:a3∈i8:=h6 a3 (by repeat (constructor))
   have d5:a6∈i8:=h6 a6 (by repeat (constructor))
   have d6:a2∈i8:=h6 a2 (by repeat (constructor))
   have d7:a5∈i8:=h6 a5 (by repeat (constructor))
   have d8:b2∈i8:=h6 b2 (by repeat (constructor))
   have b4:=b4.mv x6
   have a4:=a4.mv x6
   have b9:=b9.mv x6
   have a0:=a0.keep q7 (by simp only [Option.mem_toList];exact fun e=>absurd rfl (C3 _ e))
   have i5:=i5.keep q7 (by simp only [Option.mem_toList];exact fun e=>absurd rfl (C4 _ e))
   have a1:=a1.keep q7 (by simp only [Option.mem_toList];exact fun e=>absurd rfl (C5 _ e))
   have b0:=b0.keep q7 (by simp only [Option.mem_toList];exact fun e=>absurd rfl (C6 _ e))
   refine AA (AG (c3) rfl (AE (AC (AT (BF rfl (CU rfl rfl rfl) (Exists.intro _ (And.intro rfl (AA (AO 4 BR rfl (BE (BP (c3) rfl rfl g8.oneCell MQ (by repeat (assumption)) i5 oT W5 fun x7 W6 q8 q9 f8=>(?_))))))))))))
   have b4:=b4.mv q8
   have a4:=a4.mv q8
   have b9:=b9.mv q8
   have g8:=g8.mv q8 q9 (fun b hb=>AM (u1 b hb))
   have a0:=a0.keep q9 (AM c6)
   have a1:=a1.keep q9 (AM (Ne.symm c0))
   have b0:=b0.keep q9 (AM (Ne.symm g4))
   refine AE (AC (AF (cw_draw' 7 _ _ [EF (vP (some ⟨a3,4,none⟩)),EF c3,EF (vI no),EF (vP (some ⟨a2,0,none⟩)),EF (vP (some ⟨a2,0,none⟩)),EF (vP (some ⟨a2,0,none⟩)),EF (vA #[vI ((c.recs[no.toNat]!).no),vI ((c.recs[no.toNat]!).asked),vI ((c.recs[no.toNat]!).state),d1,d2])] kR kR kR kR rfl rfl ⟨kI,kI,kI,kI,kI,kI,kI,trivial⟩ ⟨?_,?_,?_,?_,?_,?_,?_,trivial⟩ ?_)))
   ·intro F1 w1 k1 hf hd
    obtain ⟨F2,rfl⟩:=BB (F:=F1) [(6,vP (some ⟨a3,0,none⟩))] ⟨hf 6 kR,trivial⟩
    exact AW rfl ((AO 4 BR rfl (⟨(Keep.refl _ _),rfl⟩)))
   ·intro F1 w1 k1 hf hd
    have k0:=(Keep.drew [] x7).trans k1
    have f8:=f8.keep k0 (by simp)
    obtain ⟨F2,rfl⟩:=BB (F:=F1) [(42,vP (some ⟨a3,4,none⟩))] ⟨hd 0 42 kR,trivial⟩
    exact AW rfl ((AR U23_ rfl (c3) rfl f8 rfl (⟨(Keep.refl _ _),rfl⟩)))
   ·intro F1 w1 k1 hf hd
    obtain ⟨F2,rfl⟩:=BB (F:=F1) [(1,vI no)] ⟨hf 1 kR,trivial⟩
    exact AW rfl ((AD (vI no) rfl (⟨(Keep.refl _ _),rfl⟩)))
   ·intro F1 w1 k1 hf hd
    obtain ⟨F2,rfl⟩:=BB (F:=F1) [(9,vP (some ⟨a2,0,none⟩))] ⟨hf 9 kR,trivial⟩
    exact AW rfl ((AD (vP (some ⟨a2,0,none⟩)) rfl (⟨(Keep.refl _ _),rfl⟩)))
   ·intro F1 w1 k1 hf hd
    obtain ⟨F2,rfl⟩:=BB (F:=F1) [(45,vP (some ⟨a2,0,none⟩))] ⟨hd 3 45 kR,trivial⟩
    exact AW rfl ((CC ⟨a2,0,none⟩ rfl (⟨(Keep.refl _ _),rfl⟩)))
   ·intro F1 w1 k1 hf hd
    obtain ⟨F2,rfl⟩:=BB (F:=F1) [(46,vP (some ⟨a2,0,none⟩))] ⟨hd 4 46 kR,trivial⟩
    exact AW rfl ((AO 0 DY rfl (⟨(Keep.refl _ _),rfl⟩)))
   ·intro F1 w1 k1 hf hd
    have k0:=(Keep.drew [] x7).trans k1
    have b0:=b0.keep k0 (by simp)
    obtain ⟨F2,rfl⟩:=BB (F:=F1) [(47,vP (some ⟨a2,0,none⟩))] ⟨hd 5 47 kR,trivial⟩
    exact AW rfl ((AX (vs:=[vI ((c.recs[no.toNat]!).no),vI ((c.recs[no.toNat]!).asked),vI ((c.recs[no.toNat]!).state),d1,d2]) U47_ rfl DC rfl b0 rfl (⟨(Keep.refl _ _),rfl⟩)))
   intro W7 W8 m5 p1 p2
   have W9:=W6.call m5
   have r0:Mv i8 x7 i8 W8:=Mv.of_keep m5
   have b4:=b4.mv r0
   have a4:=a4.mv r0
   have b9:=b9.mv r0
   have g8:=g8.mv r0 m5 (by simp)
   have a0:=a0.keep m5 (by simp)
   have f8:=f8.keep m5 (by simp)
   have a1:=a1.keep m5 (by simp)
   obtain ⟨F2,rfl⟩:=BB (F:=W7) [(6,vP (some ⟨a3,0,none⟩)),(7,vP (some ⟨a6,0,none⟩)),(51, .tuple #[vN (.func 59) #[] #[vP (some ⟨a3,0,none⟩),vP (some ⟨a6,0,none⟩)]]),(43,c3),(44,vI no),(48,vA #[vI ((c.recs[no.toNat]!).no),vI ((c.recs[no.toNat]!).asked),vI ((c.recs[no.toNat]!).state),d1,d2])] ⟨p2 6 kR,p2 7 kR,p2 51 kR,p1 1 43 kR (by decide),p1 2 44 kR (by decide),p1 6 48 kR (by decide),trivial⟩
   clear p1 p2
   refine AA (FK U23_ DC .i64 no no.toNat rfl rfl oM g8 oM fun cB l2=>(BE (GN (c.recs[no.toNat]!) (by decide) DC rfl rfl g8 l2 (M0 _ l2) oM ⟨_,_,rfl,b4,a4⟩ W9 fun cC X0 X1 x8 f9=>(?_))))
   have a0:=a0.keep x8 (by simp only [List.mem_singleton];exact fun e=>absurd e.symm (C7 _ l2))
   have b9:=b9.mv X1
   have f8:=f8.keep x8 (by simp only [List.mem_singleton];exact fun e=>absurd e.symm (u1 _ l2))
   have a1:=a1.keep x8 (by simp only [List.mem_singleton];exact fun e=>absurd e.symm (C8 _ l2))
   refine AE (AC (AF (AB kR (AA (AX (vs:=[vI c.epoch,vI c.threshold,vI c.wait,f7,c3]) U25_ rfl AV rfl f8 rfl (BE (AS (vs:=[vI c.epoch,vI c.threshold,vI c.wait,f7,c3]) (.agg #[vI c.epoch,vI c.threshold,vI c.wait,f7,c3]) rfl rfl rfl AV (fun u hu=>by simp only [List.mem_cons,List.not_mem_nil,or_false] at hu;rcases hu with rfl|rfl|rfl|rfl|rfl <;> first|rfl|exact b9.oneCell|exact f9.oneCell) (by repeat (assumption)) f8 oT X0 fun cD X2 F9 x9 u2=>(?_))))))))
   have f9:=f9.mv F9 x9 (fun b hb=>AM (u1 b hb))
   have b9:=b9.mv F9
   have a0:=a0.keep x9 (AM c6)
   have a1:=a1.keep x9 (AM (Ne.symm c0))
   refine BE (BP (vI 0) rfl rfl rfl IH (by repeat (assumption)) a1 oT X2 fun cE X3 G0 y0 M1=>(?_))
   have f9:=f9.mv G0 y0 (fun b hb=>AM (C8 b hb))
   have b9:=b9.mv G0
   have a0:=a0.keep y0 (AM e8)
   have u2:=u2.keep y0 (AM c0)
   refine AE (AC (AT (IV (GQ [vP (some ⟨a3,0,none⟩),vP (some ⟨a6,0,none⟩)] 19 .returning rfl (fun h=>by cases h) rfl DJ Try.func59 rfl rfl oT rfl rfl (fun cF=>AF (AB kR (AA (AD (Value.nilIface) rfl (AA (o_neqNil' U20_ rfl (AE (AC (AP false rfl rfl (fun h=>by cases h) (fun _=>AZ (DF rfl (EN rfl) (Exists.intro _ (And.intro (BY rfl (CN (vs:=[vI c.epoch,vI c.threshold,vI c.wait,f7,c3]) rfl U25_ rfl AV rfl u2 rfl) (GK rfl U28_ rfl rfl M1 rfl)) (BQ (AA (AJ (vA #[vI c.epoch,vI c.threshold,vI c.wait,f7,c3]) rfl rfl (AA (AJ (vI 0) rfl rfl (BE (AS (vs:=[vI c.epoch,vI c.threshold,vI c.wait,f7,c3]) (.agg #[vI c.epoch,vI c.threshold,vI c.wait,f7,c3]) rfl rfl rfl AV (fun u hu=>by simp only [List.mem_cons,List.not_mem_nil,or_false] at hu;rcases hu with rfl|rfl|rfl|rfl|rfl <;> first|rfl|exact b9.oneCell|exact f9.oneCell) (by repeat (assumption)) a0 oT X3 fun cG G1 G2 X4 M2=>(?_)))))))))))))))))))))))))
   have b9:=b9.mv G2
   have f9:=f9.mv G2 X4 (fun b hb=>AM (C7 b hb))
   refine AA (AG (vI 0) rfl (AE (AC (AT (BF rfl (BY rfl (CN (vs:=[vI c.epoch,vI c.threshold,vI c.wait,f7,c3]) rfl U25_ rfl AV rfl M2 rfl) (CY rfl rfl)) (?_))))))
   have X5:((AK c no (AI c guardian)).1)=(⟨c.epoch,c.threshold,c.wait,c.guardians,c.recs.set no.toNat (c.recs[no.toNat]!)⟩:Circle):=by exact congrArg (fun p=>p.1) (show AK c no (AI c guardian)=_ from app_had hok oM oM aS aS aS)
   have X6:((AK c no (AI c guardian)).2)=(0:Int):=by exact congrArg (fun p=>p.2) (show AK c no (AI c guardian)=_ from app_had hok oM oM aS aS aS)
   exact ⟨_,rfl,G1.keep,by rw [X5,X6];exact ⟨[vI c.epoch,vI c.threshold,vI c.wait,f7,c3],rfl,⟨_,_,rfl,b9.out,(f9.pub G1)⟩⟩⟩
  ·refine AA (FB (k:=1) (vN (.func 42) #[] #[vP (some ⟨a5,0,none⟩)]) U68_ U3_ rfl (congrArg vI k5) b3 rfl (AA (AD (vT #[vN (.func 42) #[] #[vP (some ⟨a5,0,none⟩)],vO true]) rfl (AA (AJ (vN (.func 42) #[] #[vP (some ⟨a5,0,none⟩)]) rfl rfl (AA (AJ (vO true) rfl rfl (AA (AG (vN (.func 42) #[] #[vP (some ⟨a5,0,none⟩)]) rfl (AA (AG (vO true) rfl (AE (AC (AF (AB kR (AA (AD (vO true) rfl (AE (AC (AP true rfl rfl (fun _=>AB kR (AA (AD (vN (.func 42) #[] #[vP (some ⟨a5,0,none⟩)]) rfl (AA (EO [] [vP (some ⟨a5,0,none⟩)] [] enter_42 rfl rfl (BC 3 Try.func42 rfl rfl oT (fun cH=>AB kR (AA (AR U64_ rfl (vP (some ⟨a2,0,none⟩)) rfl a7 rfl (AA (DO [vP (some ⟨a2,0,none⟩),vO false,vI 1] ES rfl (BC 11 Try.func41 rfl rfl oT (fun cI=>AF (AB kR (AA (AD (vO false) rfl (AA (EI false rfl (AE (AC (AP true rfl rfl (fun _=>AB kR (AA (AD (vI 1) rfl (AA (CR (l:=[(0, .tmp 8)]) JA LV rfl [(0,vI 1,[vI 1])] [vI 1] rfl ⟨_,rfl,rfl,oT,rfl⟩ (AA (GA (vA #[vI 1]) U78_ rfl rfl (BE (GD rfl (CX rfl (CE (CX rfl (CE (CX rfl (CE (CX rfl (CE (EA (GC (ED [vP (some ⟨a3,0,none⟩),vP (some ⟨a6,0,none⟩)] (.panicking [{ v:=Value.iface 78 (vA #[vI 1]),recovered:=false }]) rfl (fun h=>by cases h) rfl DJ (HJ (1:Int) a3 a6 p5 a8 a1 (by repeat (constructor)) (by repeat (constructor)) c0) (fun e_ cJ hR_=>?_))))))))))))))))))))) (fun h=>by cases h)))))))))))))))))))))) (fun h=>by cases h)))))))))))))))))))))
   obtain ⟨v_,rfl,X7,cK,X8,M3,M4⟩:=hR_
   have a0:=a0.keep X8 (MS c6 e8)
   refine Exists.intro _ (And.intro (BY rfl (CN (vs:=[vI 0,vI 0,vI 0,nS,nS]) rfl U25_ rfl AV rfl M3 rfl) (GK rfl U28_ rfl rfl M4 rfl)) (BQ (AA (AJ (vA #[vI 0,vI 0,vI 0,nS,nS]) rfl rfl (AA (AJ (vI 1) rfl rfl (BE (AS (vs:=[vI 0,vI 0,vI 0,nS,nS]) (.agg #[vI 0,vI 0,vI 0,nS,nS]) rfl rfl rfl AV (fun u hu=>by simp only [List.mem_cons,List.not_mem_nil,or_false] at hu;rcases hu with rfl|rfl|rfl|rfl|rfl <;> rfl) (by repeat (constructor)) a0 oT X7 fun cL X9 cM cN M5=>(AA (AG (vI 1) rfl (AE (AC (AT (BF rfl (BY rfl (CN (vs:=[vI 0,vI 0,vI 0,nS,nS]) rfl U25_ rfl AV rfl M5 rfl) (CY rfl rfl)) (?_)))))))))))))))
   have Y0:((AK c no (AI c guardian)).1)=(⟨(0:Int),(0:Int),(0:Int),[],[]⟩:Circle):=by exact congrArg (fun p=>p.1) (show AK c no (AI c guardian)=_ from app_done hok oM oM aS)
   have Y1:((AK c no (AI c guardian)).2)=(1:Int):=by exact congrArg (fun p=>p.2) (show AK c no (AI c guardian)=_ from app_done hok oM oM aS)
   exact ⟨_,rfl,X9.keep,by rw [Y0,Y1];exact ⟨[vI 0,vI 0,vI 0,nS,nS],rfl,Enc.out (B:=(b2 :: (a5 :: (a2 :: (a6 :: (a3 :: (b1 :: []))))))) ⟨.slice none 0 0, .slice none 0 0,rfl,(BV.nil _ _ _),(BV.nil _ _ _)⟩⟩⟩
  refine AA (FB (k:=2) (vN (.func 40) #[] #[vP (some ⟨a5,0,none⟩)]) U68_ U3_ rfl (congrArg vI k5) b3 rfl (AA (AD (vT #[vN (.func 40) #[] #[vP (some ⟨a5,0,none⟩)],vO true]) rfl (AA (AJ (vN (.func 40) #[] #[vP (some ⟨a5,0,none⟩)]) rfl rfl (AA (AJ (vO true) rfl rfl (AA (AG (vN (.func 40) #[] #[vP (some ⟨a5,0,none⟩)]) rfl (AA (AG (vO true) rfl (AE (AC (AF (AB kR (AA (AD (vO true) rfl (AE (AC (AP true rfl rfl (fun _=>AB kR (AA (AD (vN (.func 40) #[] #[vP (some ⟨a5,0,none⟩)]) rfl (AA (EO [] [vP (some ⟨a5,0,none⟩)] [] enter_40 rfl rfl (BC 3 Try.func40 rfl rfl oT (fun cO=>AB kR (AA (AR U64_ rfl (vP (some ⟨a2,0,none⟩)) rfl a7 rfl (AA (DO [vP (some ⟨a2,0,none⟩),vO false,vI 452] ES rfl (BC 11 Try.func41 rfl rfl oT (fun cP=>AF (AB kR (AA (AD (vO false) rfl (AA (EI false rfl (AE (AC (AP true rfl rfl (fun _=>AB kR (AA (AD (vI 452) rfl (AA (CR (l:=[(0, .tmp 8)]) JA LV rfl [(0,vI 452,[vI 452])] [vI 452] rfl ⟨_,rfl,rfl,oT,rfl⟩ (AA (GA (vA #[vI 452]) U78_ rfl rfl (BE (GD rfl (CX rfl (CE (CX rfl (CE (CX rfl (CE (CX rfl (CE (EA (GC (ED [vP (some ⟨a3,0,none⟩),vP (some ⟨a6,0,none⟩)] (.panicking [{ v:=Value.iface 78 (vA #[vI 452]),recovered:=false }]) rfl (fun h=>by cases h) rfl DJ (HJ (452:Int) a3 a6 p5 a8 a1 (by repeat (constructor)) (by repeat (constructor)) c0) (fun e_ cQ hR_=>?_))))))))))))))))))))) (fun h=>by cases h)))))))))))))))))))))) (fun h=>by cases h)))))))))))))))))))))
  obtain ⟨v_,rfl,Y2,cR,Y3,M6,M7⟩:=hR_
  have a0:=a0.keep Y3 (MS c6 e8)
  refine Exists.intro _ (And.intro (BY rfl (CN (vs:=[vI 0,vI 0,vI 0,nS,nS]) rfl U25_ rfl AV rfl M6 rfl) (GK rfl U28_ rfl rfl M7 rfl)) (BQ (AA (AJ (vA #[vI 0,vI 0,vI 0,nS,nS]) rfl rfl (AA (AJ (vI 452) rfl rfl (BE (AS (vs:=[vI 0,vI 0,vI 0,nS,nS]) (.agg #[vI 0,vI 0,vI 0,nS,nS]) rfl rfl rfl AV (fun u hu=>by simp only [List.mem_cons,List.not_mem_nil,or_false] at hu;rcases hu with rfl|rfl|rfl|rfl|rfl <;> rfl) (by repeat (constructor)) a0 oT Y2 fun cS Y4 cT cU M8=>(AA (AG (vI 452) rfl (AE (AC (AT (BF rfl (BY rfl (CN (vs:=[vI 0,vI 0,vI 0,nS,nS]) rfl U25_ rfl AV rfl M8 rfl) (CY rfl rfl)) (?_)))))))))))))))
  have Y5:((AK c no (AI c guardian)).1)=(⟨(0:Int),(0:Int),(0:Int),[],[]⟩:Circle):=by exact congrArg (fun p=>p.1) (show AK c no (AI c guardian)=_ from app_dead hok oM oM aS)
  have Y6:((AK c no (AI c guardian)).2)=(452:Int):=by exact congrArg (fun p=>p.2) (show AK c no (AI c guardian)=_ from app_dead hok oM oM aS)
  exact ⟨_,rfl,Y4.keep,by rw [Y5,Y6];exact ⟨[vI 0,vI 0,vI 0,nS,nS],rfl,Enc.out (B:=(b2 :: (a5 :: (a2 :: (a6 :: (a3 :: (b1 :: []))))))) ⟨.slice none 0 0, .slice none 0 0,rfl,(BV.nil _ _ _),(BV.nil _ _ _)⟩⟩⟩
 have aL:no<(0:Int):=by simpa using y2
 refine AU rfl (AU rfl (AU rfl (AU rfl (AU rfl (AA (AY (vO true) rfl rfl (AE (AC (AP true rfl rfl (fun _=>AF (AB kR (AA (AX (vs:=[vI 0,vI 0,vI 0,nS,nS]) U25_ rfl AV rfl a8 rfl (BE (AS (vs:=[vI 0,vI 0,vI 0,nS,nS]) (.agg #[vI 0,vI 0,vI 0,nS,nS]) rfl rfl rfl AV (fun u hu=>by simp only [List.mem_cons,List.not_mem_nil,or_false] at hu;rcases hu with rfl|rfl|rfl|rfl|rfl <;> rfl) (by repeat (constructor)) a8 oT p3 fun cV Y7 cW G3 u3=>(?_))))))) (fun h=>by cases h))))))))))
 have a0:=a0.keep G3 (AM c6)
 have a1:=a1.keep G3 (AM (Ne.symm c0))
 refine BE (BP (vI 1) rfl rfl rfl IH (by repeat (constructor)) a1 oT Y7 fun cX Y8 cY G4 M9=>(?_))
 have a0:=a0.keep G4 (AM e8)
 have u3:=u3.keep G4 (AM c0)
 refine AE (AC (AT (BA (ID rfl (BY rfl (CN (vs:=[vI 0,vI 0,vI 0,nS,nS]) rfl U25_ rfl AV rfl u3 rfl) (GK rfl U28_ rfl rfl M9 rfl)) (BQ (AA (AJ (vA #[vI 0,vI 0,vI 0,nS,nS]) rfl rfl (AA (AJ (vI 1) rfl rfl (BE (AS (vs:=[vI 0,vI 0,vI 0,nS,nS]) (.agg #[vI 0,vI 0,vI 0,nS,nS]) rfl rfl rfl AV (fun u hu=>by simp only [List.mem_cons,List.not_mem_nil,or_false] at hu;rcases hu with rfl|rfl|rfl|rfl|rfl <;> rfl) (by repeat (constructor)) a0 oT Y8 fun cZ Y9 da db N0=>(AA (AG (vI 1) rfl (AE (AC (AT (BF rfl (BY rfl (CN (vs:=[vI 0,vI 0,vI 0,nS,nS]) rfl U25_ rfl AV rfl N0 rfl) (CY rfl rfl)) (?_))))))))))))))))))
 have Z0:((AK c no (AI c guardian)).1)=(⟨(0:Int),(0:Int),(0:Int),[],[]⟩:Circle):=by exact congrArg (fun p=>p.1) (show AK c no (AI c guardian)=_ from app_no hok oM)
 have Z1:((AK c no (AI c guardian)).2)=(1:Int):=by exact congrArg (fun p=>p.2) (show AK c no (AI c guardian)=_ from app_no hok oM)
 exact ⟨_,rfl,Y9.keep,by rw [Z0,Z1];exact ⟨[vI 0,vI 0,vI 0,nS,nS],rfl,Enc.out (B:=(a6 :: (a3 :: (b1 :: [])))) ⟨.slice none 0 0, .slice none 0 0,rfl,(BV.nil _ _ _),(BV.nil _ _ _)⟩⟩⟩
end Go.Proofs.Ytpdekmknnpkmgaa
