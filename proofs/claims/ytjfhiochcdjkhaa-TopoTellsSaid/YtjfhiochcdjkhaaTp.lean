/- What functions of the program compute, and that the model's run computes it. Conditions: as stated. -/
import Derived.Test.YtjfhiochcdjkhaaTpb
open Go.Ev Go
namespace Go.Proofs.Ytjfhiochcdjkhaa.T

/- turnout/turnoutlaw17.TopoTells -/
def k10 : CC :=
  (.seq
  (.region [
    ⟨some 3, .box, [(.tmp 0)], none⟩,
    ⟨some 6, .mv, [(.const (.bool false))], none⟩] [1, 2, 3])
  (.seq
  (.seq
  (.region [
    ⟨some 22, (.load true 3), [(.tmp 3)], none⟩,
    ⟨some 23, (.call true []), [(.func 35), (.tmp 22)], none⟩,
    ⟨some 24, (.un .not), [(.tmp 23)], none⟩] [1, 2, 3, 24])
  (.cond (.tmp 24)
    (.seq
    (.region [
      ⟨some 25, (.call true []), [(.func 36)], none⟩,
      ⟨some 6, .mv, [(.tmp 25)], none⟩] [6])
    .ret)
    .skip))
  (.seq
  (.region [
    ⟨some 26, (.load true 3), [(.tmp 3)], none⟩,
    ⟨some 27, (.call true []), [(.func 29), (.tmp 26)], none⟩,
    ⟨some 7, .mv, [(.tmp 27)], none⟩] [1, 2, 3, 7])
  (.seq
  (.seq
  (.region [
    ⟨some 28, (.load true 3), [(.tmp 3)], none⟩,
    ⟨some 29, (.call true []), [(.func 40), (.tmp 28)], none⟩,
    ⟨some 30, .mv, [(.tmp 7)], none⟩,
    ⟨some 31, (.eqBool true), [(.tmp 29), (.tmp 30)], none⟩] [1, 2, 3, 7, 31])
  (.cond (.tmp 31)
    (.seq
    (.region [
      ⟨some 6, .mv, [(.const (.bool false))], none⟩] [6])
    .ret)
    .skip))
  (.seq
  (.seq
  (.region [
    ⟨some 32, .mv, [(.tmp 7)], none⟩,
    ⟨some 33, (.un .not), [(.tmp 32)], none⟩] [1, 2, 3, 33])
  (.cond (.tmp 33)
    (.seq
    (.region [
      ⟨some 34, (.call true []), [(.func 36)], none⟩,
      ⟨some 6, .mv, [(.tmp 34)], none⟩] [6])
    .ret)
    .skip))
  (.seq
  (.region [
    ⟨some 36, (.load true 3), [(.tmp 3)], none⟩,
    ⟨some 37, .mv, [(.tmp 1)], none⟩,
    ⟨some 38, .mv, [(.tmp 2)], none⟩,
    ⟨some 39, (.call true []), [(.func 37), (.tmp 36), (.tmp 37), (.tmp 38)], none⟩,
    ⟨some 35, .mv, [(.tmp 39)], none⟩,
    ⟨some 40, (.extract 0), [(.tmp 35)], none⟩,
    ⟨some 41, (.extract 1), [(.tmp 35)], none⟩,
    ⟨some 42, (.extract 2), [(.tmp 35)], none⟩,
    ⟨some 43, (.extract 3), [(.tmp 35)], none⟩,
    ⟨some 8, .mv, [(.tmp 40)], none⟩,
    ⟨some 9, .mv, [(.tmp 41)], none⟩,
    ⟨some 10, .mv, [(.tmp 42)], none⟩,
    ⟨some 11, .mv, [(.tmp 43)], none⟩] [1, 2, 3, 8, 9, 10, 11])
  (.seq
  (.region [
    ⟨some 45, (.load true 3), [(.tmp 3)], none⟩,
    ⟨some 46, .mv, [(.tmp 1)], none⟩,
    ⟨some 47, .mv, [(.tmp 2)], none⟩,
    ⟨some 48, (.call true []), [(.func 41), (.tmp 45), (.tmp 46), (.tmp 47)], none⟩,
    ⟨some 44, .mv, [(.tmp 48)], none⟩,
    ⟨some 49, (.extract 0), [(.tmp 44)], none⟩,
    ⟨some 50, (.extract 1), [(.tmp 44)], none⟩,
    ⟨some 51, (.extract 2), [(.tmp 44)], none⟩,
    ⟨some 52, (.extract 3), [(.tmp 44)], none⟩,
    ⟨some 12, .mv, [(.tmp 49)], none⟩,
    ⟨some 13, .mv, [(.tmp 50)], none⟩,
    ⟨some 14, .mv, [(.tmp 51)], none⟩,
    ⟨some 15, .mv, [(.tmp 52)], none⟩] [1, 2, 3, 8, 9, 10, 11, 12, 13, 14, 15])
  (.seq
  (.seq
  (.drawn [
    ⟨some 53, .mv, [(.tmp 8)], none⟩,
    ⟨some 54, .mv, [(.tmp 12)], none⟩,
    ⟨some 55, (.bin .neq), [(.tmp 53), (.tmp 54)], none⟩,
    ⟨some 56, .mv, [(.tmp 55)], none⟩,
    ⟨some 57, .mv, [(.tmp 9)], (some (56, false))⟩,
    ⟨some 58, .mv, [(.tmp 13)], (some (56, false))⟩,
    ⟨some 59, (.bin .neq), [(.tmp 57), (.tmp 58)], (some (56, false))⟩,
    ⟨some 60, .pick, [(.tmp 56), (.const (.bool true)), (.tmp 59)], none⟩,
    ⟨some 61, .mv, [(.tmp 60)], none⟩,
    ⟨some 62, .mv, [(.tmp 10)], (some (61, false))⟩,
    ⟨some 63, .mv, [(.tmp 14)], (some (61, false))⟩,
    ⟨some 64, (.bin .neq), [(.tmp 62), (.tmp 63)], (some (61, false))⟩,
    ⟨some 65, .pick, [(.tmp 61), (.const (.bool true)), (.tmp 64)], none⟩,
    ⟨some 66, .mv, [(.tmp 65)], none⟩,
    ⟨some 67, .mv, [(.tmp 11)], (some (66, false))⟩,
    ⟨some 68, .mv, [(.tmp 15)], (some (66, false))⟩,
    ⟨some 69, (.eqBool true), [(.tmp 67), (.tmp 68)], (some (66, false))⟩,
    ⟨some 70, .pick, [(.tmp 66), (.const (.bool true)), (.tmp 69)], none⟩,
    ⟨some 71, .mv, [(.tmp 70)], none⟩,
    ⟨some 72, (.load true 3), [(.tmp 3)], (some (71, false))⟩,
    ⟨some 73, .mv, [(.tmp 1)], (some (71, false))⟩,
    ⟨some 74, .mv, [(.tmp 2)], (some (71, false))⟩,
    ⟨some 75, (.call true []), [(.func 38), (.tmp 72), (.tmp 73), (.tmp 74)], (some (71, false))⟩,
    ⟨some 76, (.load true 3), [(.tmp 3)], (some (71, false))⟩,
    ⟨some 77, .mv, [(.tmp 1)], (some (71, false))⟩,
    ⟨some 78, .mv, [(.tmp 2)], (some (71, false))⟩,
    ⟨some 79, (.call true []), [(.func 42), (.tmp 76), (.tmp 77), (.tmp 78)], (some (71, false))⟩,
    ⟨some 80, (.bin .neq), [(.tmp 75), (.tmp 79)], (some (71, false))⟩,
    ⟨some 81, .pick, [(.tmp 71), (.const (.bool true)), (.tmp 80)], none⟩,
    ⟨some 82, .mv, [(.tmp 81)], none⟩,
    ⟨some 83, (.load true 3), [(.tmp 3)], (some (82, false))⟩,
    ⟨some 84, (.call true []), [(.func 43), (.tmp 83)], (some (82, false))⟩,
    ⟨some 85, (.load true 3), [(.tmp 3)], (some (82, false))⟩,
    ⟨some 86, (.call true []), [(.func 44), (.tmp 85)], (some (82, false))⟩,
    ⟨some 87, (.bin .neq), [(.tmp 84), (.tmp 86)], (some (82, false))⟩,
    ⟨some 88, .pick, [(.tmp 82), (.const (.bool true)), (.tmp 87)], none⟩] [(22, 23), (31, 32)] [1, 3, 88])
  (.cond (.tmp 88)
    (.seq
    (.region [
      ⟨some 6, .mv, [(.const (.bool false))], none⟩] [6])
    .ret)
    .skip))
  (.seq
  (.drawn [
    ⟨some 89, (.load true 3), [(.tmp 3)], none⟩,
    ⟨some 90, .mv, [(.tmp 1)], none⟩,
    ⟨some 91, (.call false []), [(.func 45), (.tmp 89), (.tmp 90)], none⟩,
    ⟨some 92, (.load true 3), [(.tmp 3)], none⟩,
    ⟨some 93, .mv, [(.tmp 1)], none⟩,
    ⟨some 94, (.call false []), [(.func 46), (.tmp 92), (.tmp 93)], none⟩,
    ⟨some 16, .mv, [(.tmp 91)], none⟩,
    ⟨some 17, .mv, [(.tmp 94)], none⟩] [(2, 3)] [1, 3, 16, 17])
  (.seq
  (.seq
  (.region [
    ⟨some 95, .mv, [(.tmp 16)], none⟩,
    ⟨some 96, (.len false), [(.tmp 95)], none⟩,
    ⟨some 97, .mv, [(.tmp 17)], none⟩,
    ⟨some 98, (.len false), [(.tmp 97)], none⟩,
    ⟨some 99, (.bin .neq), [(.tmp 96), (.tmp 98)], none⟩] [1, 3, 16, 17, 99])
  (.cond (.tmp 99)
    (.seq
    (.region [
      ⟨some 6, .mv, [(.const (.bool false))], none⟩] [6])
    .ret)
    .skip))
  (.seq
  (.seq
  (.region [
    ⟨some 18, .mv, [(.const (.int .i64 0))], none⟩] [1, 3, 16, 17, 18])
  (.block 0
    (.loop [1, 3, 16, 17, 18]
      (.seq
      (.seq
      (.region [
        ⟨some 100, .mv, [(.tmp 18)], none⟩,
        ⟨some 101, .mv, [(.tmp 17)], none⟩,
        ⟨some 102, (.len false), [(.tmp 101)], none⟩,
        ⟨some 103, (.bin .lss), [(.tmp 100), (.tmp 102)], none⟩] [1, 3, 16, 17, 18, 103])
      (.cond (.tmp 103)
        .skip
        (.exit 0)))
      (.seq
      (.block 1
        (.seq
        (.drawn [
          ⟨some 106, .mv, [(.tmp 16)], none⟩,
          ⟨some 107, .mv, [(.tmp 18)], none⟩,
          ⟨some 108, (.indexAddr none 3), [(.tmp 106), (.tmp 107)], none⟩,
          ⟨some 109, (.fieldAddr 0), [(.tmp 108)], none⟩,
          ⟨some 110, (.load false 1), [(.tmp 109)], none⟩,
          ⟨some 111, .mv, [(.tmp 17)], none⟩,
          ⟨some 112, .mv, [(.tmp 18)], none⟩,
          ⟨some 113, (.indexAddr none 3), [(.tmp 111), (.tmp 112)], none⟩,
          ⟨some 114, (.fieldAddr 0), [(.tmp 113)], none⟩,
          ⟨some 115, (.load false 1), [(.tmp 114)], none⟩,
          ⟨some 116, (.bin .neq), [(.tmp 110), (.tmp 115)], none⟩,
          ⟨some 117, .mv, [(.tmp 116)], none⟩,
          ⟨some 118, .mv, [(.tmp 16)], (some (117, false))⟩,
          ⟨some 119, .mv, [(.tmp 18)], (some (117, false))⟩,
          ⟨some 120, (.indexAddr none 3), [(.tmp 118), (.tmp 119)], (some (117, false))⟩,
          ⟨some 121, (.fieldAddr 1), [(.tmp 120)], (some (117, false))⟩,
          ⟨some 122, (.load false 1), [(.tmp 121)], (some (117, false))⟩,
          ⟨some 123, .mv, [(.tmp 17)], (some (117, false))⟩,
          ⟨some 124, .mv, [(.tmp 18)], (some (117, false))⟩,
          ⟨some 125, (.indexAddr none 3), [(.tmp 123), (.tmp 124)], (some (117, false))⟩,
          ⟨some 126, (.fieldAddr 1), [(.tmp 125)], (some (117, false))⟩,
          ⟨some 127, (.load false 1), [(.tmp 126)], (some (117, false))⟩,
          ⟨some 128, (.bin .neq), [(.tmp 122), (.tmp 127)], (some (117, false))⟩,
          ⟨some 129, .pick, [(.tmp 117), (.const (.bool true)), (.tmp 128)], none⟩,
          ⟨some 130, .mv, [(.tmp 129)], none⟩,
          ⟨some 131, .mv, [(.tmp 16)], (some (130, false))⟩,
          ⟨some 132, .mv, [(.tmp 18)], (some (130, false))⟩,
          ⟨some 133, (.indexAddr none 3), [(.tmp 131), (.tmp 132)], (some (130, false))⟩,
          ⟨some 134, (.fieldAddr 2), [(.tmp 133)], (some (130, false))⟩,
          ⟨some 135, (.load false 1), [(.tmp 134)], (some (130, false))⟩,
          ⟨some 136, .mv, [(.tmp 17)], (some (130, false))⟩,
          ⟨some 137, .mv, [(.tmp 18)], (some (130, false))⟩,
          ⟨some 138, (.indexAddr none 3), [(.tmp 136), (.tmp 137)], (some (130, false))⟩,
          ⟨some 139, (.fieldAddr 2), [(.tmp 138)], (some (130, false))⟩,
          ⟨some 140, (.load false 1), [(.tmp 139)], (some (130, false))⟩,
          ⟨some 141, (.bin .neq), [(.tmp 135), (.tmp 140)], (some (130, false))⟩,
          ⟨some 142, .pick, [(.tmp 130), (.const (.bool true)), (.tmp 141)], none⟩] [] [1, 3, 16, 17, 18, 142])
        (.cond (.tmp 142)
          (.seq
          (.region [
            ⟨some 6, .mv, [(.const (.bool false))], none⟩] [6])
          .ret)
          .skip)))
      (.region [
        ⟨some 104, .mv, [(.tmp 18)], none⟩,
        ⟨some 105, (.bin .add), [(.tmp 104), (.const (.int .i64 1))], none⟩,
        ⟨some 18, .mv, [(.tmp 105)], none⟩] [1, 3, 16, 17, 18]))))))
  (.seq
  (.region [
    ⟨some 19, .mv, [(.const (.bool true))], none⟩] [1, 3, 19])
  (.seq
  (.region [
    ⟨some 143, (.load true 3), [(.tmp 3)], none⟩,
    ⟨some 144, (.call false []), [(.func 47), (.tmp 143), (.const (.int .i64 0))], none⟩,
    ⟨some 20, .mv, [(.tmp 144)], none⟩] [1, 3, 19, 20])
  (.seq
  (.seq
  (.region [
    ⟨some 21, .mv, [(.const (.int .i64 0))], none⟩] [1, 3, 19, 20, 21])
  (.block 2
    (.loop [1, 3, 19, 20, 21]
      (.seq
      (.seq
      (.region [
        ⟨some 145, .mv, [(.tmp 21)], none⟩,
        ⟨some 146, .mv, [(.tmp 20)], none⟩,
        ⟨some 147, (.len false), [(.tmp 146)], none⟩,
        ⟨some 148, (.bin .lss), [(.tmp 145), (.tmp 147)], none⟩] [1, 3, 19, 20, 21, 148])
      (.cond (.tmp 148)
        .skip
        (.exit 2)))
      (.seq
      (.block 3
        (.region [
          ⟨some 151, .mv, [(.tmp 19)], none⟩,
          ⟨some 152, .mv, [(.tmp 151)], none⟩,
          ⟨some 153, .mv, [(.tmp 20)], (some (152, true))⟩,
          ⟨some 154, .mv, [(.tmp 21)], (some (152, true))⟩,
          ⟨some 155, (.indexAddr none 1), [(.tmp 153), (.tmp 154)], (some (152, true))⟩,
          ⟨some 156, (.load false 1), [(.tmp 155)], (some (152, true))⟩,
          ⟨some 157, (.bin .geq), [(.tmp 156), (.const (.int .i64 0))], (some (152, true))⟩,
          ⟨some 158, .pick, [(.tmp 152), (.tmp 157), (.const (.bool false))], none⟩,
          ⟨some 19, .mv, [(.tmp 158)], none⟩] [1, 3, 19, 20, 21]))
      (.region [
        ⟨some 149, .mv, [(.tmp 21)], none⟩,
        ⟨some 150, (.bin .add), [(.tmp 149), (.const (.int .i64 1))], none⟩,
        ⟨some 21, .mv, [(.tmp 150)], none⟩] [1, 3, 19, 20, 21]))))))
  (.seq
  (.drawn [
    ⟨some 159, (.load true 3), [(.tmp 3)], none⟩,
    ⟨some 160, .mv, [(.tmp 1)], none⟩,
    ⟨some 161, (.call false []), [(.func 39), (.tmp 159), (.tmp 160)], none⟩,
    ⟨some 162, (.load true 3), [(.tmp 3)], none⟩,
    ⟨some 163, .mv, [(.tmp 1)], none⟩,
    ⟨some 164, (.call false []), [(.func 47), (.tmp 162), (.tmp 163)], none⟩,
    ⟨some 165, (.call true []), [(.func 15), (.tmp 161), (.tmp 164)], none⟩,
    ⟨some 166, .mv, [(.tmp 165)], none⟩,
    ⟨some 167, (.load true 3), [(.tmp 3)], (some (166, true))⟩,
    ⟨some 168, (.call true []), [(.func 48), (.tmp 167)], (some (166, true))⟩,
    ⟨some 169, .mv, [(.tmp 19)], (some (166, true))⟩,
    ⟨some 170, (.eqBool false), [(.tmp 168), (.tmp 169)], (some (166, true))⟩,
    ⟨some 171, .pick, [(.tmp 166), (.tmp 170), (.const (.bool false))], none⟩,
    ⟨some 172, .mv, [(.tmp 171)], none⟩,
    ⟨some 173, (.call true []), [(.func 36)], (some (172, true))⟩,
    ⟨some 174, .pick, [(.tmp 172), (.tmp 173), (.const (.bool false))], none⟩,
    ⟨some 6, .mv, [(.tmp 174)], none⟩] [(2, 3)] [6])
  .ret)))))))))))))))
def f10 : Ev.Fn := ⟨3, 175, [.tmp 6], k10⟩
set_option maxRecDepth 100000 in
theorem e10 : compFn prog sig 10 3 [[1, 2, 3], [1, 2, 3, 24], [6], [1, 2, 3, 7], [1, 2, 3, 7, 31], [6], [1, 2, 3, 33], [6], [1, 2, 3, 8, 9, 10, 11], [1, 2, 3, 8, 9, 10, 11, 12, 13, 14, 15], [1, 3, 88], [6], [1, 3, 16, 17], [1, 3, 16, 17, 99], [6], [1, 3, 16, 17, 18], [1, 3, 16, 17, 18], [1, 3, 16, 17, 18, 103], [1, 3, 16, 17, 18, 142], [6], [1, 3, 16, 17, 18], [1, 3, 19], [1, 3, 19, 20], [1, 3, 19, 20, 21], [1, 3, 19, 20, 21], [1, 3, 19, 20, 21, 148], [1, 3, 19, 20, 21], [1, 3, 19, 20, 21], [6]] = some f10 := by kernel_rfl
noncomputable def law17_TopoTells_L1 (r41 : Sl topo_Side) (r43 : Sl ref17_Side) : Int → Option (Sum (Int) (Sum (Unit) (Unit))) := fun i46 =>
  bif decide (i46 < (r43.l.length : Int)) then ((ixI i46 r41.l.length).bind fun n51 =>
  (ixI i46 r43.l.length).bind fun n53 =>
  bif ((((gt r41.l n51).Port) != ((gt r43.l n53).Port)) || ((((gt r41.l n51).To) != ((gt r43.l n53).To)) || (((gt r41.l n51).Link) != ((gt r43.l n53).Link)))) then (some (.inr (.inl ()))) else
  (some (.inl (wr .i64 (i46 + 1))))) else
  (some (.inr (.inr ())))

noncomputable def law17_TopoTells_L2 (r61 : Sl Int) : (Bool × Int) → Option (Sum ((Bool × Int)) (Bool)) := fun (b63, i64) =>
  bif decide (i64 < (r61.l.length : Int)) then ((bif b63 then ((ixI i64 r61.l.length).bind fun n71 =>
  some (decide ((gt r61.l n71) ≥ 0))) else (some false)).bind fun b73 =>
  some (.inl (b73, wr .i64 (i64 + 1)))) else
  (some (.inr b63))

noncomputable def law17_TopoTells (t_0 : api_Topo) (sw_1 : Int) (port_2 : Int) : Option (Bool) :=
  (law17_small t_0).bind fun r1 =>
  bif (!r1) then ((law17_awake).bind fun r4 =>
  some r4) else
  ((ref17_Right t_0).bind fun r6 =>
  (topo_Right t_0).bind fun r8 =>
  bif (!(r8 == r6)) then (some false) else
  (bif (!r6) then ((law17_awake).bind fun r12 =>
  some r12) else
  ((topo_Peer t_0 sw_1 port_2).bind fun (r14, r15, r16, r17) =>
  (ref17_Peer t_0 sw_1 port_2).bind fun (r19, r20, r21, r22) =>
  (bif (r14 != r19) then (some true) else (bif (r15 != r20) then (some true) else (bif (r16 != r21) then (some true) else (bif (!(r17 == r22)) then (some true) else ((topo_HostAt t_0 sw_1 port_2).bind fun r24 =>
  (ref17_HostAt t_0 sw_1 port_2).bind fun r26 =>
  bif (r24 != r26) then (some true) else ((topo_Slowest t_0).bind fun r28 =>
  (ref17_Slowest t_0).bind fun r30 =>
  some (r28 != r30))))))).bind fun b32 =>
  bif b32 then (some false) else
  ((topo_Near t_0 sw_1).bind fun r41 =>
  (ref17_Near t_0 sw_1).bind fun r43 =>
  bif ((r41.l.length : Int) != (r43.l.length : Int)) then (some false) else
  ((loopO (law17_TopoTells_L1 r41 r43) 0).bind fun
  | .inl _ => (some false)
  | .inr (_) => ((ref17_Hops t_0 0).bind fun r61 =>
  (loopO (law17_TopoTells_L2 r61) (true, 0)).bind fun b67 =>
  (topo_Hops t_0 sw_1).bind fun r78 =>
  (ref17_Hops t_0 sw_1).bind fun r80 =>
  (ref13_Same r78 r80).bind fun r82 =>
  (bif r82 then ((topo_Whole t_0).bind fun r84 =>
  bif (r84 == b67) then ((law17_awake).bind fun r86 =>
  some r86) else (some false)) else (some false)).bind fun b88 =>
  some b88))))))
theorem law17_TopoTells_ok {t_0 : api_Topo} {sw_1 : Int} {port_2 : Int} {z : Bool} (hp : law17_TopoTells t_0 sw_1 port_2 = some z) : Good prog 10 [.agg (c_api_Topo t_0), .d (.lit (.int .i64 sw_1)), .d (.lit (.int .i64 port_2))] [.c (.d (.lit (.bool z)))] [] := by
  unfold law17_TopoTells at hp
  refine fn_good mixed e10 (fnS (m := [false]) (s := ⟨[(0, .agg [.d (.lit (.int .i64 t_0.Switches)), .d (slD 6 c_api_Link t_0.Links), .d (slD 2 c_api_Host t_0.Hosts)]), (1, .c (.d (.lit (.int .i64 sw_1)))), (2, .c (.d (.lit (.int .i64 port_2))))], [], 0, []⟩) (len := 0) (c := k10) rfl (Sub.of_eq rfl) rfl rfl ?_)
  refine w_seq ?_
  refine w_region ?_
  refine o2 rfl ?_
  refine o1 rfl ?_
  refine o_end (e' := [(1, .c (.d (.lit (.int .i64 sw_1)))), (2, .c (.d (.lit (.int .i64 port_2)))), (3, .c (.op 0 0))]) rfl rfl ?_
  refine after_n ?_
  refine w_seq ?_
  refine w_seq ?_
  obtain ⟨r1, h2, hp⟩ := bnd hp
  refine w_region ?_
  refine o1 rfl ?_
  refine oc (rs := [.c (.d (.lit (.bool r1)))]) (outs := []) rfl (law17_small_ok h2) rfl ?_
  refine o1 (v := .c (.d (.lit (.bool (!r1))))) rfl ?_
  refine o_end (e' := [(1, .c (.d (.lit (.int .i64 sw_1)))), (2, .c (.d (.lit (.int .i64 port_2)))), (3, .c (.op 0 0)), (24, .c (.d (.lit (.bool (!r1)))))]) rfl rfl ?_
  refine after_n ?_
  refine w_cond (t := (!r1)) rfl (fun hb3 => ?_) (fun hb3 => ?_)
  · have hp := cnd_t hb3 hp
    refine w_seq ?_
    obtain ⟨r4, h5, hp⟩ := bnd hp
    refine w_region ?_
    refine oc (rs := [.c (.d (.lit (.bool r4)))]) (outs := []) rfl (law17_awake_ok h5) rfl ?_
    refine o1 rfl ?_
    refine o_end (e' := [(6, .c (.d (.lit (.bool r4))))]) rfl rfl ?_
    refine after_n ?_
    refine w_ret ?_
    refine after_r ?_
    obtain rfl := Option.some.inj hp
    exact leave_at rfl rfl (pr_c p_d pr_nil) pc_nil rfl rfl
  · have hp := cnd_f hb3 hp
    refine w_skip ?_
    refine after_n ?_
    refine w_seq ?_
    obtain ⟨r6, h7, hp⟩ := bnd hp
    refine w_region ?_
    refine o1 rfl ?_
    refine oc (rs := [.c (.d (.lit (.bool r6)))]) (outs := []) rfl (ref17_Right_ok h7) rfl ?_
    refine o1 rfl ?_
    refine o_end (e' := [(1, .c (.d (.lit (.int .i64 sw_1)))), (2, .c (.d (.lit (.int .i64 port_2)))), (3, .c (.op 0 0)), (7, .c (.d (.lit (.bool r6))))]) rfl rfl ?_
    refine after_n ?_
    refine w_seq ?_
    refine w_seq ?_
    obtain ⟨r8, h9, hp⟩ := bnd hp
    refine w_region ?_
    refine o1 rfl ?_
    refine oc (rs := [.c (.d (.lit (.bool r8)))]) (outs := []) rfl (topo_Right_ok h9) rfl ?_
    refine o1 rfl ?_
    refine o1 (v := .c (.d (.lit (.bool (!(r8 == r6)))))) rfl ?_
    refine o_end (e' := [(1, .c (.d (.lit (.int .i64 sw_1)))), (2, .c (.d (.lit (.int .i64 port_2)))), (3, .c (.op 0 0)), (7, .c (.d (.lit (.bool r6)))), (31, .c (.d (.lit (.bool (!(r8 == r6))))))]) rfl rfl ?_
    refine after_n ?_
    refine w_cond (t := (!(r8 == r6))) rfl (fun hb10 => ?_) (fun hb10 => ?_)
    · have hp := cnd_t hb10 hp
      refine w_seq ?_
      refine w_region ?_
      refine o1 rfl ?_
      refine o_end (e' := [(6, .c (.d (.lit (.bool false))))]) rfl rfl ?_
      refine after_n ?_
      refine w_ret ?_
      refine after_r ?_
      obtain rfl := Option.some.inj hp
      exact leave_at rfl rfl (pr_c p_d pr_nil) pc_nil rfl rfl
    · have hp := cnd_f hb10 hp
      refine w_skip ?_
      refine after_n ?_
      refine w_seq ?_
      refine w_seq ?_
      refine w_region ?_
      refine o1 rfl ?_
      refine o1 (v := .c (.d (.lit (.bool (!r6))))) rfl ?_
      refine o_end (e' := [(1, .c (.d (.lit (.int .i64 sw_1)))), (2, .c (.d (.lit (.int .i64 port_2)))), (3, .c (.op 0 0)), (33, .c (.d (.lit (.bool (!r6)))))]) rfl rfl ?_
      refine after_n ?_
      refine w_cond (t := (!r6)) rfl (fun hb11 => ?_) (fun hb11 => ?_)
      · have hp := cnd_t hb11 hp
        refine w_seq ?_
        obtain ⟨r12, h13, hp⟩ := bnd hp
        refine w_region ?_
        refine oc (rs := [.c (.d (.lit (.bool r12)))]) (outs := []) rfl (law17_awake_ok h13) rfl ?_
        refine o1 rfl ?_
        refine o_end (e' := [(6, .c (.d (.lit (.bool r12))))]) rfl rfl ?_
        refine after_n ?_
        refine w_ret ?_
        refine after_r ?_
        obtain rfl := Option.some.inj hp
        exact leave_at rfl rfl (pr_c p_d pr_nil) pc_nil rfl rfl
      · have hp := cnd_f hb11 hp
        refine w_skip ?_
        refine after_n ?_
        refine w_seq ?_
        obtain ⟨⟨r14, r15, r16, r17⟩, h18, hp⟩ := bnd hp
        refine w_region ?_
        iterate 3 refine o1 rfl ?_
        refine oc (rs := [.c (.d (.lit (.int .i64 r14))), .c (.d (.lit (.int .i64 r15))), .c (.d (.lit (.int .i64 r16))), .c (.d (.lit (.bool r17)))]) (outs := []) rfl (topo_Peer_ok h18) rfl ?_
        iterate 9 refine o1 rfl ?_
        refine o_end (e' := [(1, .c (.d (.lit (.int .i64 sw_1)))), (2, .c (.d (.lit (.int .i64 port_2)))), (3, .c (.op 0 0)), (8, .c (.d (.lit (.int .i64 r14)))), (9, .c (.d (.lit (.int .i64 r15)))), (10, .c (.d (.lit (.int .i64 r16)))), (11, .c (.d (.lit (.bool r17))))]) rfl rfl ?_
        refine after_n ?_
        refine w_seq ?_
        obtain ⟨⟨r19, r20, r21, r22⟩, h23, hp⟩ := bnd hp
        refine w_region ?_
        iterate 3 refine o1 rfl ?_
        refine oc (rs := [.c (.d (.lit (.int .i64 r19))), .c (.d (.lit (.int .i64 r20))), .c (.d (.lit (.int .i64 r21))), .c (.d (.lit (.bool r22)))]) (outs := []) rfl (ref17_Peer_ok h23) rfl ?_
        iterate 9 refine o1 rfl ?_
        refine o_end (e' := [(1, .c (.d (.lit (.int .i64 sw_1)))), (2, .c (.d (.lit (.int .i64 port_2)))), (3, .c (.op 0 0)), (8, .c (.d (.lit (.int .i64 r14)))), (9, .c (.d (.lit (.int .i64 r15)))), (10, .c (.d (.lit (.int .i64 r16)))), (11, .c (.d (.lit (.bool r17)))), (12, .c (.d (.lit (.int .i64 r19)))), (13, .c (.d (.lit (.int .i64 r20)))), (14, .c (.d (.lit (.int .i64 r21)))), (15, .c (.d (.lit (.bool r22))))]) rfl rfl ?_
        refine after_n ?_
        refine w_seq ?_
        refine w_seq ?_
        obtain ⟨b32, h33, hp⟩ := bnd hp
        refine w_join (J := fun s => Sub s ⟨[(1, .c (.d (.lit (.int .i64 sw_1)))), (3, .c (.op 0 0)), (88, .c (.d (.lit (.bool b32))))], [(0, some (.box [.d (.lit (.int .i64 t_0.Switches)), .d (slD 6 c_api_Link t_0.Links), .d (slD 2 c_api_Host t_0.Hosts)]))], 1, []⟩) ?_ ?_
        · refine w_drawn ?_
          iterate 2 refine d1 rfl ?_
          refine d1 (v := .c (.d (.lit (.bool (r14 != r19))))) rfl ?_
          refine d1 rfl ?_
          cases hb34 : ((r14 != r19) : Bool)
          · have h33 := cnd_f hb34 h33
            refine dg rfl (by first | rfl | exact hb34) rfl ?_
            refine dg rfl (by first | rfl | exact hb34) rfl ?_
            refine dg (v := .c (.d (.lit (.bool (r15 != r20))))) rfl (by first | rfl | exact hb34) rfl ?_
            refine d1 (pk_f (by first | rfl | exact hb34)) ?_
            refine d1 rfl ?_
            cases hb35 : ((r15 != r20) : Bool)
            · have h33 := cnd_f hb35 h33
              refine dg rfl (by first | rfl | exact hb35) rfl ?_
              refine dg rfl (by first | rfl | exact hb35) rfl ?_
              refine dg (v := .c (.d (.lit (.bool (r16 != r21))))) rfl (by first | rfl | exact hb35) rfl ?_
              refine d1 (pk_f (by first | rfl | exact hb35)) ?_
              refine d1 rfl ?_
              cases hb36 : ((r16 != r21) : Bool)
              · have h33 := cnd_f hb36 h33
                refine dg rfl (by first | rfl | exact hb36) rfl ?_
                refine dg rfl (by first | rfl | exact hb36) rfl ?_
                refine dg (v := .c (.d (.lit (.bool (!(r17 == r22)))))) rfl (by first | rfl | exact hb36) rfl ?_
                refine d1 (pk_f (by first | rfl | exact hb36)) ?_
                refine d1 rfl ?_
                cases hb37 : ((!(r17 == r22)) : Bool)
                · have h33 := cnd_f hb37 h33
                  obtain ⟨r24, h25, h33⟩ := bnd h33
                  obtain ⟨r26, h27, h33⟩ := bnd h33
                  refine dg rfl (by first | rfl | exact hb37) rfl ?_
                  refine dg rfl (by first | rfl | exact hb37) rfl ?_
                  refine dg rfl (by first | rfl | exact hb37) rfl ?_
                  refine dcg (rs := [.c (.d (.lit (.int .i64 r24)))]) (outs := []) rfl (by first | rfl | exact hb37) rfl (topo_HostAt_ok h25) rfl (Nat.le_of_ble_eq_true rfl) ?_
                  refine dg rfl (by first | rfl | exact hb37) rfl ?_
                  refine dg rfl (by first | rfl | exact hb37) rfl ?_
                  refine dg rfl (by first | rfl | exact hb37) rfl ?_
                  refine dcg (rs := [.c (.d (.lit (.int .i64 r26)))]) (outs := []) rfl (by first | rfl | exact hb37) rfl (ref17_HostAt_ok h27) rfl (Nat.le_of_ble_eq_true rfl) ?_
                  refine dg (v := .c (.d (.lit (.bool (r24 != r26))))) rfl (by first | rfl | exact hb37) rfl ?_
                  refine d1 (pk_f (by first | rfl | exact hb37)) ?_
                  refine d1 rfl ?_
                  cases hb38 : ((r24 != r26) : Bool)
                  · have h33 := cnd_f hb38 h33
                    obtain ⟨r28, h29, h33⟩ := bnd h33
                    obtain ⟨r30, h31, h33⟩ := bnd h33
                    refine dg rfl (by first | rfl | exact hb38) rfl ?_
                    refine dcg (rs := [.c (.d (.lit (.int .i64 r28)))]) (outs := []) rfl (by first | rfl | exact hb38) rfl (topo_Slowest_ok h29) rfl (Nat.le_of_ble_eq_true rfl) ?_
                    refine dg rfl (by first | rfl | exact hb38) rfl ?_
                    refine dcg (rs := [.c (.d (.lit (.int .i64 r30)))]) (outs := []) rfl (by first | rfl | exact hb38) rfl (ref17_Slowest_ok h31) rfl (Nat.le_of_ble_eq_true rfl) ?_
                    refine dg (v := .c (.d (.lit (.bool (r28 != r30))))) rfl (by first | rfl | exact hb38) rfl ?_
                    refine d1 (pk_f (by first | rfl | exact hb38)) ?_
                    cases h33
                    exact d_join rfl (sub_ren [0] [1, 3, 88] (by decide) rfl (.cons .nil) (Nat.le_of_ble_eq_true rfl))
                  · have h33 := cnd_t hb38 h33
                    refine dnot rfl (by first | rfl | exact hb38) ?_
                    refine dnot rfl (by first | rfl | exact hb38) ?_
                    refine dnot rfl (by first | rfl | exact hb38) ?_
                    refine dnot rfl (by first | rfl | exact hb38) ?_
                    refine dnot rfl (by first | rfl | exact hb38) ?_
                    refine d1 (pk_t (by first | rfl | exact hb38)) ?_
                    cases h33
                    exact d_join rfl (sub_ren [0] [1, 3, 88] (by decide) rfl (.cons .nil) (Nat.le_of_ble_eq_true rfl))
                · have h33 := cnd_t hb37 h33
                  refine dnot rfl (by first | rfl | exact hb37) ?_
                  refine dnot rfl (by first | rfl | exact hb37) ?_
                  refine dnot rfl (by first | rfl | exact hb37) ?_
                  refine dnot rfl (by first | rfl | exact hb37) ?_
                  refine dnot rfl (by first | rfl | exact hb37) ?_
                  refine dnot rfl (by first | rfl | exact hb37) ?_
                  refine dnot rfl (by first | rfl | exact hb37) ?_
                  refine dnot rfl (by first | rfl | exact hb37) ?_
                  refine dnot rfl (by first | rfl | exact hb37) ?_
                  refine d1 (pk_t (by first | rfl | exact hb37)) ?_
                  refine d1 rfl ?_
                  iterate 5 refine dnot rfl rfl ?_
                  refine d1 rfl ?_
                  cases h33
                  exact d_join rfl (sub_ren [0] [1, 3, 88] (by decide) rfl (.cons .nil) (Nat.le_of_ble_eq_true rfl))
              · have h33 := cnd_t hb36 h33
                refine dnot rfl (by first | rfl | exact hb36) ?_
                refine dnot rfl (by first | rfl | exact hb36) ?_
                refine dnot rfl (by first | rfl | exact hb36) ?_
                refine d1 (pk_t (by first | rfl | exact hb36)) ?_
                refine d1 rfl ?_
                iterate 9 refine dnot rfl rfl ?_
                iterate 2 refine d1 rfl ?_
                iterate 5 refine dnot rfl rfl ?_
                refine d1 rfl ?_
                cases h33
                exact d_join rfl (sub_ren [0] [1, 3, 88] (by decide) rfl (.cons .nil) (Nat.le_of_ble_eq_true rfl))
            · have h33 := cnd_t hb35 h33
              refine dnot rfl (by first | rfl | exact hb35) ?_
              refine dnot rfl (by first | rfl | exact hb35) ?_
              refine dnot rfl (by first | rfl | exact hb35) ?_
              refine d1 (pk_t (by first | rfl | exact hb35)) ?_
              refine d1 rfl ?_
              iterate 3 refine dnot rfl rfl ?_
              iterate 2 refine d1 rfl ?_
              iterate 9 refine dnot rfl rfl ?_
              iterate 2 refine d1 rfl ?_
              iterate 5 refine dnot rfl rfl ?_
              refine d1 rfl ?_
              cases h33
              exact d_join rfl (sub_ren [0] [1, 3, 88] (by decide) rfl (.cons .nil) (Nat.le_of_ble_eq_true rfl))
          · have h33 := cnd_t hb34 h33
            refine dnot rfl (by first | rfl | exact hb34) ?_
            refine dnot rfl (by first | rfl | exact hb34) ?_
            refine dnot rfl (by first | rfl | exact hb34) ?_
            refine d1 (pk_t (by first | rfl | exact hb34)) ?_
            refine d1 rfl ?_
            iterate 3 refine dnot rfl rfl ?_
            iterate 2 refine d1 rfl ?_
            iterate 3 refine dnot rfl rfl ?_
            iterate 2 refine d1 rfl ?_
            iterate 9 refine dnot rfl rfl ?_
            iterate 2 refine d1 rfl ?_
            iterate 5 refine dnot rfl rfl ?_
            refine d1 rfl ?_
            cases h33
            exact d_join rfl (sub_ren [0] [1, 3, 88] (by decide) rfl (.cons .nil) (Nat.le_of_ble_eq_true rfl))
        · intro s hs39
          refine after_n ?_
          refine W.sub hs39 ?_
          refine w_cond (t := b32) rfl (fun hb40 => ?_) (fun hb40 => ?_)
          · have hp := cnd_t hb40 hp
            refine w_seq ?_
            refine w_region ?_
            refine o1 rfl ?_
            refine o_end (e' := [(6, .c (.d (.lit (.bool false))))]) rfl rfl ?_
            refine after_n ?_
            refine w_ret ?_
            refine after_r ?_
            obtain rfl := Option.some.inj hp
            exact leave_at rfl rfl (pr_c p_d pr_nil) pc_nil rfl rfl
          · have hp := cnd_f hb40 hp
            refine w_skip ?_
            refine after_n ?_
            refine w_seq ?_
            obtain ⟨r41, h42, hp⟩ := bnd hp
            obtain ⟨r43, h44, hp⟩ := bnd hp
            refine w_drawn ?_
            iterate 2 refine d1 rfl ?_
            refine dc (rs := [.c (.d (slD 3 c_topo_Side r41))]) (outs := []) rfl (topo_Near_ok h42) rfl (Nat.le_of_ble_eq_true rfl) ?_
            iterate 2 refine d1 rfl ?_
            refine dc (rs := [.c (.d (slD 3 c_ref17_Side r43))]) (outs := []) rfl (ref17_Near_ok h44) rfl (Nat.le_of_ble_eq_true rfl) ?_
            iterate 2 refine d1 rfl ?_
            refine d_fin (e' := [(1, .c (.d (.lit (.int .i64 sw_1)))), (3, .c (.op 0 0)), (16, .c (.d (slD 3 c_topo_Side r41))), (17, .c (.d (slD 3 c_ref17_Side r43)))]) (n' := 513) rfl rfl rfl rfl ?_
            refine after_n ?_
            refine w_seq ?_
            refine w_seq ?_
            refine w_region ?_
            refine o1 rfl ?_
            refine o1 (v := .c (.d (.lit (.int .i64 (r41.l.length : Int))))) len_sd ?_
            refine o1 rfl ?_
            refine o1 (v := .c (.d (.lit (.int .i64 (r43.l.length : Int))))) len_sd ?_
            refine o1 (v := .c (.d (.lit (.bool ((r41.l.length : Int) != (r43.l.length : Int)))))) rfl ?_
            refine o_end (e' := [(1, .c (.d (.lit (.int .i64 sw_1)))), (3, .c (.op 0 0)), (16, .c (.d (slD 3 c_topo_Side r41))), (17, .c (.d (slD 3 c_ref17_Side r43))), (99, .c (.d (.lit (.bool ((r41.l.length : Int) != (r43.l.length : Int))))))]) rfl rfl ?_
            refine after_n ?_
            refine w_cond (t := ((r41.l.length : Int) != (r43.l.length : Int))) rfl (fun hb45 => ?_) (fun hb45 => ?_)
            · have hp := cnd_t hb45 hp
              refine w_seq ?_
              refine w_region ?_
              refine o1 rfl ?_
              refine o_end (e' := [(6, .c (.d (.lit (.bool false))))]) rfl rfl ?_
              refine after_n ?_
              refine w_ret ?_
              refine after_r ?_
              obtain rfl := Option.some.inj hp
              exact leave_at rfl rfl (pr_c p_d pr_nil) pc_nil rfl rfl
            · have hp := cnd_f hb45 hp
              refine w_skip ?_
              refine after_n ?_
              refine w_seq ?_
              refine w_seq ?_
              refine w_region ?_
              refine o1 rfl ?_
              refine o_end (e' := [(1, .c (.d (.lit (.int .i64 sw_1)))), (3, .c (.op 0 0)), (16, .c (.d (slD 3 c_topo_Side r41))), (17, .c (.d (slD 3 c_ref17_Side r43))), (18, .c (.d (.lit (.int .i64 0))))]) rfl rfl ?_
              refine after_n ?_
              refine w_block ?_
              obtain ⟨x48, h49, hp⟩ := bnd hp
              refine W.mono ?_ (w_loopS (st := fun (v : Int) => match v with | i46 => ⟨[(1, .c (.d (.lit (.int .i64 sw_1)))), (3, .c (.op 0 0)), (16, .c (.d (slD 3 c_topo_Side r41))), (17, .c (.d (slD 3 c_ref17_Side r43))), (18, .c (.d (.lit (.int .i64 i46))))], [(0, some (.box [.d (.lit (.int .i64 t_0.Switches)), .d (slD 6 c_api_Link t_0.Links), .d (slD 2 c_api_Host t_0.Hosts)]))], 1, []⟩) (a := 0) (Q := Jn (fun (x : Sum (Unit) (Unit)) o s => match x with | .inl _ => o = Out.ret ∧ Sub s ⟨[(6, .c (.d (.lit (.bool false))))], [], 0, []⟩ | .inr (_) => o = Out.exit 0 ∧ Sub s ⟨[(1, .c (.d (.lit (.int .i64 sw_1)))), (3, .c (.op 0 0))], [(0, some (.box [.d (.lit (.int .i64 t_0.Switches)), .d (slD 6 c_api_Link t_0.Links), .d (slD 2 c_api_Host t_0.Hosts)]))], 1, []⟩)) ?_ h49 ?_)
              · intro o s hs60
                rcases x48 with (_ | _)
                · obtain ⟨rfl, hs60⟩ := hs60
                  refine out_r ?_
                  refine after_r ?_
                  obtain rfl := Option.some.inj hp
                  refine wk.sub hs60 ?_
                  exact leave_at rfl rfl (pr_c p_d pr_nil) pc_nil rfl rfl
                · obtain ⟨rfl, hs60⟩ := hs60
                  refine out_e ?_
                  refine after_n ?_
                  refine W.sub hs60 ?_
                  refine w_seq ?_
                  refine w_region ?_
                  refine o1 rfl ?_
                  refine o_end (e' := [(1, .c (.d (.lit (.int .i64 sw_1)))), (3, .c (.op 0 0)), (19, .c (.d (.lit (.bool true))))]) rfl rfl ?_
                  refine after_n ?_
                  refine w_seq ?_
                  obtain ⟨r61, h62, hp⟩ := bnd hp
                  refine w_region ?_
                  refine o1 rfl ?_
                  refine oc (rs := [.c (.d (slD 1 cI_i64 r61))]) (outs := []) rfl (ref17_Hops_ok h62) rfl ?_
                  refine o1 rfl ?_
                  refine o_end (e' := [(1, .c (.d (.lit (.int .i64 sw_1)))), (3, .c (.op 0 0)), (19, .c (.d (.lit (.bool true)))), (20, .c (.d (slD 1 cI_i64 r61)))]) rfl rfl ?_
                  refine after_n ?_
                  refine w_seq ?_
                  refine w_seq ?_
                  refine w_region ?_
                  refine o1 rfl ?_
                  refine o_end (e' := [(1, .c (.d (.lit (.int .i64 sw_1)))), (3, .c (.op 0 0)), (19, .c (.d (.lit (.bool true)))), (20, .c (.d (slD 1 cI_i64 r61))), (21, .c (.d (.lit (.int .i64 0))))]) rfl rfl ?_
                  refine after_n ?_
                  refine w_block ?_
                  obtain ⟨b67, h69, hp⟩ := bnd hp
                  refine W.mono ?_ (w_loopS (st := fun (v : (Bool × Int)) => match v with | (b63, i64) => ⟨[(1, .c (.d (.lit (.int .i64 sw_1)))), (3, .c (.op 0 0)), (19, .c (.d (.lit (.bool b63)))), (20, .c (.d (slD 1 cI_i64 r61))), (21, .c (.d (.lit (.int .i64 i64))))], [(0, some (.box [.d (.lit (.int .i64 t_0.Switches)), .d (slD 6 c_api_Link t_0.Links), .d (slD 2 c_api_Host t_0.Hosts)]))], 1, []⟩) (a := (true, 0)) (Q := Jn (fun (x : Bool) o s => match x with | b67 => o = Out.exit 2 ∧ Sub s ⟨[(1, .c (.d (.lit (.int .i64 sw_1)))), (3, .c (.op 0 0)), (19, .c (.d (.lit (.bool b67))))], [(0, some (.box [.d (.lit (.int .i64 t_0.Switches)), .d (slD 6 c_api_Link t_0.Links), .d (slD 2 c_api_Host t_0.Hosts)]))], 1, []⟩)) ?_ h69 ?_)
                  · intro o s hs77
                    obtain ⟨rfl, hs77⟩ := hs77
                    refine out_e ?_
                    refine after_n ?_
                    refine W.sub hs77 ?_
                    refine w_seq ?_
                    obtain ⟨r78, h79, hp⟩ := bnd hp
                    obtain ⟨r80, h81, hp⟩ := bnd hp
                    obtain ⟨r82, h83, hp⟩ := bnd hp
                    obtain ⟨b88, h89, hp⟩ := bnd hp
                    refine w_join (J := fun s => Sub s ⟨[(6, .c (.d (.lit (.bool b88))))], [], 0, []⟩) ?_ ?_
                    · refine w_drawn ?_
                      iterate 2 refine d1 rfl ?_
                      refine dc (rs := [.c (.d (slD 1 cI_i64 r78))]) (outs := []) rfl (topo_Hops_ok h79) rfl (Nat.le_of_ble_eq_true rfl) ?_
                      iterate 2 refine d1 rfl ?_
                      refine dc (rs := [.c (.d (slD 1 cI_i64 r80))]) (outs := []) rfl (ref17_Hops_ok h81) rfl (Nat.le_of_ble_eq_true rfl) ?_
                      refine dc (rs := [.c (.d (.lit (.bool r82)))]) (outs := []) rfl (ref13_Same_ok h83) rfl (Nat.le_of_ble_eq_true rfl) ?_
                      refine d1 rfl ?_
                      cases hb90 : (r82 : Bool)
                      · have h89 := cnd_f hb90 h89
                        refine dnot rfl (by first | rfl | exact hb90) ?_
                        refine dnot rfl (by first | rfl | exact hb90) ?_
                        refine dnot rfl (by first | rfl | exact hb90) ?_
                        refine dnot rfl (by first | rfl | exact hb90) ?_
                        refine d1 (pk_f (by first | rfl | exact hb90)) ?_
                        refine d1 rfl ?_
                        refine dnot rfl rfl ?_
                        iterate 2 refine d1 rfl ?_
                        cases h89
                        exact d_join rfl (sub_ren [] [6] (by decide) rfl .nil (Nat.le_of_ble_eq_true rfl))
                      · have h89 := cnd_t hb90 h89
                        obtain ⟨r84, h85, h89⟩ := bnd h89
                        refine dg rfl (by first | rfl | exact hb90) rfl ?_
                        refine dcg (rs := [.c (.d (.lit (.bool r84)))]) (outs := []) rfl (by first | rfl | exact hb90) rfl (topo_Whole_ok h85) rfl (Nat.le_of_ble_eq_true rfl) ?_
                        refine dg rfl (by first | rfl | exact hb90) rfl ?_
                        refine dg (v := .c (.d (.lit (.bool (r84 == b67))))) rfl (by first | rfl | exact hb90) rfl ?_
                        refine d1 (pk_t (by first | rfl | exact hb90)) ?_
                        refine d1 rfl ?_
                        cases hb91 : ((r84 == b67) : Bool)
                        · have h89 := cnd_f hb91 h89
                          refine dnot rfl (by first | rfl | exact hb91) ?_
                          refine d1 (pk_f (by first | rfl | exact hb91)) ?_
                          refine d1 rfl ?_
                          cases h89
                          exact d_join rfl (sub_ren [] [6] (by decide) rfl .nil (Nat.le_of_ble_eq_true rfl))
                        · have h89 := cnd_t hb91 h89
                          obtain ⟨r86, h87, h89⟩ := bnd h89
                          refine dcg (rs := [.c (.d (.lit (.bool r86)))]) (outs := []) rfl (by first | rfl | exact hb91) rfl (law17_awake_ok h87) rfl (Nat.le_of_ble_eq_true rfl) ?_
                          refine d1 (pk_t (by first | rfl | exact hb91)) ?_
                          refine d1 rfl ?_
                          cases h89
                          exact d_join rfl (sub_ren [] [6] (by decide) rfl .nil (Nat.le_of_ble_eq_true rfl))
                    · intro s hs92
                      refine after_n ?_
                      refine W.sub hs92 ?_
                      refine w_ret ?_
                      obtain rfl := Option.some.inj hp
                      exact leave_at rfl rfl (pr_c p_d pr_nil) pc_nil rfl rfl
                  · exact (sub_ren [0] [1, 3, 19, 20, 21] (by decide) rfl (.cons .nil) (Nat.le_of_ble_eq_true rfl))
                  · rintro ⟨b63, i64⟩ r hr
                    unfold law17_TopoTells_L2 at hr
                    refine w_seq ?_
                    refine w_seq ?_
                    refine w_region ?_
                    iterate 2 refine o1 rfl ?_
                    refine o1 (v := .c (.d (.lit (.int .i64 (r61.l.length : Int))))) len_sd ?_
                    refine o1 (v := .c (.d (.lit (.bool (decide (i64 < (r61.l.length : Int))))))) rfl ?_
                    refine o_end (e' := [(1, .c (.d (.lit (.int .i64 sw_1)))), (3, .c (.op 0 0)), (19, .c (.d (.lit (.bool b63)))), (20, .c (.d (slD 1 cI_i64 r61))), (21, .c (.d (.lit (.int .i64 i64)))), (148, .c (.d (.lit (.bool (decide (i64 < (r61.l.length : Int)))))))]) rfl rfl ?_
                    refine after_n ?_
                    refine w_cond (t := decide (i64 < (r61.l.length : Int))) rfl (fun hb70 => ?_) (fun hb70 => ?_)
                    · have hr := cnd_t hb70 hr
                      refine w_skip ?_
                      refine after_n ?_
                      refine w_seq ?_
                      refine w_block ?_
                      obtain ⟨b73, h74, hr⟩ := bnd hr
                      refine w_join (J := fun s => Sub s ⟨[(1, .c (.d (.lit (.int .i64 sw_1)))), (3, .c (.op 0 0)), (19, .c (.d (.lit (.bool b73)))), (20, .c (.d (slD 1 cI_i64 r61))), (21, .c (.d (.lit (.int .i64 i64))))], [(0, some (.box [.d (.lit (.int .i64 t_0.Switches)), .d (slD 6 c_api_Link t_0.Links), .d (slD 2 c_api_Host t_0.Hosts)]))], 1, []⟩) ?_ ?_
                      · refine w_region ?_
                        iterate 2 refine o1 rfl ?_
                        cases hb75 : (b63 : Bool)
                        · have h74 := cnd_f hb75 h74
                          refine onot rfl (by first | rfl | exact hb75) ?_
                          refine onot rfl (by first | rfl | exact hb75) ?_
                          refine onot rfl (by first | rfl | exact hb75) ?_
                          refine onot rfl (by first | rfl | exact hb75) ?_
                          refine onot rfl (by first | rfl | exact hb75) ?_
                          refine o1 (pk_f (by first | rfl | exact hb75)) ?_
                          refine o1 rfl ?_
                          cases h74
                          exact o_join (sub_ren [0] [1, 3, 19, 20, 21] (by decide) rfl (.cons .nil) (Nat.le_of_ble_eq_true rfl))
                        · have h74 := cnd_t hb75 h74
                          obtain ⟨n71, h72, h74⟩ := bnd h74
                          refine og rfl (by first | rfl | exact hb75) rfl ?_
                          refine og rfl (by first | rfl | exact hb75) rfl ?_
                          refine og rfl (by first | rfl | exact hb75) (ix_sd h72) ?_
                          refine og rfl (by first | rfl | exact hb75) rfl ?_
                          refine og (v := .c (.d (.lit (.bool (decide ((gt r61.l n71) ≥ 0)))))) rfl (by first | rfl | exact hb75) rfl ?_
                          refine o1 (pk_t (by first | rfl | exact hb75)) ?_
                          refine o1 rfl ?_
                          cases h74
                          exact o_join (sub_ren [0] [1, 3, 19, 20, 21] (by decide) rfl (.cons .nil) (Nat.le_of_ble_eq_true rfl))
                      · intro s hs76
                        refine out_n ?_
                        refine after_n ?_
                        refine W.sub hs76 ?_
                        refine w_region ?_
                        refine o1 rfl ?_
                        refine o1 (v := .c (.d (.lit (.int .i64 (wr .i64 (i64 + 1)))))) rfl ?_
                        refine o1 rfl ?_
                        refine o_end (e' := [(1, .c (.d (.lit (.int .i64 sw_1)))), (3, .c (.op 0 0)), (19, .c (.d (.lit (.bool b73)))), (20, .c (.d (slD 1 cI_i64 r61))), (21, .c (.d (.lit (.int .i64 (wr .i64 (i64 + 1))))))]) rfl rfl ?_
                        obtain rfl := Option.some.inj hr
                        exact And.intro rfl (sub_ren [0] [1, 3, 19, 20, 21] (by decide) rfl (.cons .nil) (Nat.le_of_ble_eq_true rfl))
                    · have hr := cnd_f hb70 hr
                      refine w_exit ?_
                      refine after_e ?_
                      obtain rfl := Option.some.inj hr
                      exact And.intro nofun (And.intro rfl (sub_ren [0] [1, 3, 19] (by decide) rfl (.cons .nil) (Nat.le_of_ble_eq_true rfl)))
              · exact (sub_ren [0] [1, 3, 16, 17, 18] (by decide) rfl (.cons .nil) (Nat.le_of_ble_eq_true rfl))
              · rintro i46 r hr
                unfold law17_TopoTells_L1 at hr
                refine w_seq ?_
                refine w_seq ?_
                refine w_region ?_
                iterate 2 refine o1 rfl ?_
                refine o1 (v := .c (.d (.lit (.int .i64 (r43.l.length : Int))))) len_sd ?_
                refine o1 (v := .c (.d (.lit (.bool (decide (i46 < (r43.l.length : Int))))))) rfl ?_
                refine o_end (e' := [(1, .c (.d (.lit (.int .i64 sw_1)))), (3, .c (.op 0 0)), (16, .c (.d (slD 3 c_topo_Side r41))), (17, .c (.d (slD 3 c_ref17_Side r43))), (18, .c (.d (.lit (.int .i64 i46)))), (103, .c (.d (.lit (.bool (decide (i46 < (r43.l.length : Int)))))))]) rfl rfl ?_
                refine after_n ?_
                refine w_cond (t := decide (i46 < (r43.l.length : Int))) rfl (fun hb50 => ?_) (fun hb50 => ?_)
                · have hr := cnd_t hb50 hr
                  refine w_skip ?_
                  refine after_n ?_
                  refine w_seq ?_
                  refine w_block ?_
                  refine w_seq ?_
                  obtain ⟨n51, h52, hr⟩ := bnd hr
                  obtain ⟨n53, h54, hr⟩ := bnd hr
                  refine w_join (J := fun s => Sub s ⟨[(1, .c (.d (.lit (.int .i64 sw_1)))), (3, .c (.op 0 0)), (16, .c (.d (slD 3 c_topo_Side r41))), (17, .c (.d (slD 3 c_ref17_Side r43))), (18, .c (.d (.lit (.int .i64 i46)))), (142, .c (.d (.lit (.bool ((((gt r41.l n51).Port) != ((gt r43.l n53).Port)) || ((((gt r41.l n51).To) != ((gt r43.l n53).To)) || (((gt r41.l n51).Link) != ((gt r43.l n53).Link))))))))], [(0, some (.box [.d (.lit (.int .i64 t_0.Switches)), .d (slD 6 c_api_Link t_0.Links), .d (slD 2 c_api_Host t_0.Hosts)]))], 1, []⟩) ?_ ?_
                  · refine w_drawn ?_
                    iterate 2 refine d1 rfl ?_
                    refine d1 (ix_sd h52) ?_
                    iterate 4 refine d1 rfl ?_
                    refine d1 (ix_sd h54) ?_
                    iterate 2 refine d1 rfl ?_
                    refine d1 (v := .c (.d (.lit (.bool (((gt r41.l n51).Port) != ((gt r43.l n53).Port)))))) rfl ?_
                    refine d1 rfl ?_
                    cases hb56 : ((((gt r41.l n51).Port) != ((gt r43.l n53).Port)) : Bool)
                    · refine dg rfl (by first | rfl | exact hb56) rfl ?_
                      refine dg rfl (by first | rfl | exact hb56) rfl ?_
                      refine dg rfl (by first | rfl | exact hb56) (ix_sd h52) ?_
                      refine dg rfl (by first | rfl | exact hb56) rfl ?_
                      refine dg rfl (by first | rfl | exact hb56) rfl ?_
                      refine dg rfl (by first | rfl | exact hb56) rfl ?_
                      refine dg rfl (by first | rfl | exact hb56) rfl ?_
                      refine dg rfl (by first | rfl | exact hb56) (ix_sd h54) ?_
                      refine dg rfl (by first | rfl | exact hb56) rfl ?_
                      refine dg rfl (by first | rfl | exact hb56) rfl ?_
                      refine dg (v := .c (.d (.lit (.bool (((gt r41.l n51).To) != ((gt r43.l n53).To)))))) rfl (by first | rfl | exact hb56) rfl ?_
                      refine d1 (pk_f (by first | rfl | exact hb56)) ?_
                      refine d1 rfl ?_
                      cases hb57 : ((((gt r41.l n51).To) != ((gt r43.l n53).To)) : Bool)
                      · refine dg rfl (by first | rfl | exact hb57) rfl ?_
                        refine dg rfl (by first | rfl | exact hb57) rfl ?_
                        refine dg rfl (by first | rfl | exact hb57) (ix_sd h52) ?_
                        refine dg rfl (by first | rfl | exact hb57) rfl ?_
                        refine dg rfl (by first | rfl | exact hb57) rfl ?_
                        refine dg rfl (by first | rfl | exact hb57) rfl ?_
                        refine dg rfl (by first | rfl | exact hb57) rfl ?_
                        refine dg rfl (by first | rfl | exact hb57) (ix_sd h54) ?_
                        refine dg rfl (by first | rfl | exact hb57) rfl ?_
                        refine dg rfl (by first | rfl | exact hb57) rfl ?_
                        refine dg (v := .c (.d (.lit (.bool (((gt r41.l n51).Link) != ((gt r43.l n53).Link)))))) rfl (by first | rfl | exact hb57) rfl ?_
                        refine d1 (pk_f (by first | rfl | exact hb57)) ?_
                        exact d_join rfl (sub_ren [0] [1, 3, 16, 17, 18, 142] (by decide) rfl (.cons .nil) (Nat.le_of_ble_eq_true rfl))
                      · refine dnot rfl (by first | rfl | exact hb57) ?_
                        refine dnot rfl (by first | rfl | exact hb57) ?_
                        refine dnot rfl (by first | rfl | exact hb57) ?_
                        refine dnot rfl (by first | rfl | exact hb57) ?_
                        refine dnot rfl (by first | rfl | exact hb57) ?_
                        refine dnot rfl (by first | rfl | exact hb57) ?_
                        refine dnot rfl (by first | rfl | exact hb57) ?_
                        refine dnot rfl (by first | rfl | exact hb57) ?_
                        refine dnot rfl (by first | rfl | exact hb57) ?_
                        refine dnot rfl (by first | rfl | exact hb57) ?_
                        refine dnot rfl (by first | rfl | exact hb57) ?_
                        refine d1 (pk_t (by first | rfl | exact hb57)) ?_
                        exact d_join rfl (sub_ren [0] [1, 3, 16, 17, 18, 142] (by decide) rfl (.cons .nil) (Nat.le_of_ble_eq_true rfl))
                    · refine dnot rfl (by first | rfl | exact hb56) ?_
                      refine dnot rfl (by first | rfl | exact hb56) ?_
                      refine dnot rfl (by first | rfl | exact hb56) ?_
                      refine dnot rfl (by first | rfl | exact hb56) ?_
                      refine dnot rfl (by first | rfl | exact hb56) ?_
                      refine dnot rfl (by first | rfl | exact hb56) ?_
                      refine dnot rfl (by first | rfl | exact hb56) ?_
                      refine dnot rfl (by first | rfl | exact hb56) ?_
                      refine dnot rfl (by first | rfl | exact hb56) ?_
                      refine dnot rfl (by first | rfl | exact hb56) ?_
                      refine dnot rfl (by first | rfl | exact hb56) ?_
                      refine d1 (pk_t (by first | rfl | exact hb56)) ?_
                      refine d1 rfl ?_
                      iterate 11 refine dnot rfl rfl ?_
                      refine d1 rfl ?_
                      exact d_join rfl (sub_ren [0] [1, 3, 16, 17, 18, 142] (by decide) rfl (.cons .nil) (Nat.le_of_ble_eq_true rfl))
                  · intro s hs58
                    refine after_n ?_
                    refine W.sub hs58 ?_
                    refine w_cond (t := ((((gt r41.l n51).Port) != ((gt r43.l n53).Port)) || ((((gt r41.l n51).To) != ((gt r43.l n53).To)) || (((gt r41.l n51).Link) != ((gt r43.l n53).Link))))) rfl (fun hb59 => ?_) (fun hb59 => ?_)
                    · have hr := cnd_t hb59 hr
                      refine w_seq ?_
                      refine w_region ?_
                      refine o1 rfl ?_
                      refine o_end (e' := [(6, .c (.d (.lit (.bool false))))]) rfl rfl ?_
                      refine after_n ?_
                      refine w_ret ?_
                      refine out_r ?_
                      refine after_r ?_
                      obtain rfl := Option.some.inj hr
                      exact And.intro nofun (And.intro rfl (sub_ren [] [6] (by decide) rfl .nil (Nat.le_of_ble_eq_true rfl)))
                    · have hr := cnd_f hb59 hr
                      refine w_skip ?_
                      refine out_n ?_
                      refine after_n ?_
                      refine w_region ?_
                      refine o1 rfl ?_
                      refine o1 (v := .c (.d (.lit (.int .i64 (wr .i64 (i46 + 1)))))) rfl ?_
                      refine o1 rfl ?_
                      refine o_end (e' := [(1, .c (.d (.lit (.int .i64 sw_1)))), (3, .c (.op 0 0)), (16, .c (.d (slD 3 c_topo_Side r41))), (17, .c (.d (slD 3 c_ref17_Side r43))), (18, .c (.d (.lit (.int .i64 (wr .i64 (i46 + 1))))))]) rfl rfl ?_
                      obtain rfl := Option.some.inj hr
                      exact And.intro rfl (sub_ren [0] [1, 3, 16, 17, 18] (by decide) rfl (.cons .nil) (Nat.le_of_ble_eq_true rfl))
                · have hr := cnd_f hb50 hr
                  refine w_exit ?_
                  refine after_e ?_
                  obtain rfl := Option.some.inj hr
                  exact And.intro nofun (And.intro rfl (sub_ren [0] [1, 3] (by decide) rfl (.cons .nil) (Nat.le_of_ble_eq_true rfl)))

end Go.Proofs.Ytjfhiochcdjkhaa.T
