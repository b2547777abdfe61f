import Derived.Test.YtkghggngmpmigaaD20
set_option linter.all false
namespace Go.X
open Go Go.Proofs
theorem t18R (op rd rs1 rs2 imm o f3 f7:Int):execC (lookF FL) sc43 1000 x18_74 (T18 true) (H18 op rd rs1 rs2 imm 82 o f3 f7) 103 (valK [2,3])=bif imm != 0 then some [Value.int IntKind.u32 0,Value.int IntKind.i64 2]
else
 bif
   ((!decide (rd<0)||decide (rd<0))&&true||false) &&
    ((!decide (rd<0)&&true||!!decide (rd<0))&&true)then
  bif bif decide (rd<0)then true else decide (rd>31)then some [Value.int IntKind.u32 0,Value.int IntKind.i64 1]
  else
   bif
     ((!decide (rs1<0)||decide (rs1<0))&&true||false) &&
      ((!decide (rs1<0)&&true||!!decide (rs1<0))&&true)then
    bif bif decide (rs1<0)then true else decide (rs1>31)then
     some [Value.int IntKind.u32 0,Value.int IntKind.i64 1]
    else
     bif
       ((!decide (rs2<0)||decide (rs2<0))&&true||false) &&
        ((!decide (rs2<0)&&true||!!decide (rs2<0))&&true)then
      bif bif decide (rs2<0)then true else decide (rs2>31)then
       some [Value.int IntKind.u32 0,Value.int IntKind.i64 1]
      else
       bif
         ((bif decide (imm<1)then true else decide (imm>0))&&false||true) &&
          ((decide (imm<1)&&false||true)&&true)then
        some
         [Value.int IntKind.u32
           (bits2 BinOp.or IntKind.u32
            (bits2 BinOp.or IntKind.u32
             (bits2 BinOp.or IntKind.u32
              (bits2 BinOp.or IntKind.u32 (bits2 BinOp.or IntKind.u32 o (IntKind.u32.wrap (f3*4096)))
               (IntKind.u32.wrap (f7*33554432)))
              (IntKind.u32.wrap (IntKind.u32.wrap rd*128)))
             (IntKind.u32.wrap (IntKind.u32.wrap rs1*32768)))
            (IntKind.u32.wrap (IntKind.u32.wrap rs2*1048576))),
          Value.int IntKind.i64 0]
       else none
     else none
   else none
 else none:=by kernel_rfl
theorem t18I (op rd rs1 rs2 imm o f3 f7:Int):execC (lookF FL) sc43 1000 x18_74 (T18 true) (H18 op rd rs1 rs2 imm 73 o f3 f7) 103 (valK [2,3])=bif
  ((!!rs2==0||!rs2==0)&&true||false) &&
   (((!!rs2==0&&false||true)&&!!rs2==0||!!!rs2==0) &&
    ((!!rs2==0&&false&&true||!(!!rs2==0&&false)) &&
     ((!!rs2==0&&false&&true||!(!!rs2==0&&false)) &&
      ((!!rs2==0&&true||!!!rs2==0) &&
       ((!!rs2==0&&(!!rs2==0&&true)||!!!rs2==0)&&true)))))then
 bif bif !rs2==0 then true else false then some [Value.int IntKind.u32 0,Value.int IntKind.i64 2]
 else
  bif
    ((!decide (rd<0)||decide (rd<0))&&true||false) &&
     ((!decide (rd<0)&&true||!!decide (rd<0))&&true)then
   bif bif decide (rd<0)then true else decide (rd>31)then
    some [Value.int IntKind.u32 0,Value.int IntKind.i64 1]
   else
    bif
      ((!decide (rs1<0)||decide (rs1<0))&&true||false) &&
       ((!decide (rs1<0)&&true||!!decide (rs1<0))&&true)then
     bif bif decide (rs1<0)then true else decide (rs1>31)then
      some [Value.int IntKind.u32 0,Value.int IntKind.i64 1]
     else
      bif
        ((!decide (rs2<0)||decide (rs2<0))&&true||false) &&
         ((!decide (rs2<0)&&true||!!decide (rs2<0))&&true)then
       bif bif decide (rs2<0)then true else decide (rs2>31)then
        some [Value.int IntKind.u32 0,Value.int IntKind.i64 1]
       else
        bif
          (((!bif decide (imm < -2048)then true else decide (imm>2047)) ||
                  bif decide (imm < -2048)then true else decide (imm>2047)) &&
             true ||
            false) &&
           (((!decide (imm < -2048)||decide (imm < -2048))&&true||false) &&
            ((!decide (imm < -2048)&&(!decide (imm < -2048)&&true)||!!decide (imm < -2048)) &&
             ((!decide (imm < -2048)&&true||!!decide (imm < -2048))&&true)))then
         bif bif bif decide (imm < -2048)then true else decide (imm>2047)then true else false then
          some [Value.int IntKind.u32 0,Value.int IntKind.i64 1]
         else
          some
           [Value.int IntKind.u32
             (bits2 BinOp.or IntKind.u32
              (bits2 BinOp.or IntKind.u32
               (bits2 BinOp.or IntKind.u32
                (bits2 BinOp.or IntKind.u32
                 (bits2 BinOp.or IntKind.u32
                  (bits2 BinOp.or IntKind.u32 o (IntKind.u32.wrap (f3*4096)))
                  (IntKind.u32.wrap (f7*33554432)))
                 (IntKind.u32.wrap (IntKind.u32.wrap rd*128)))
                (IntKind.u32.wrap (IntKind.u32.wrap rs1*32768)))
               (IntKind.u32.wrap (IntKind.u32.wrap rs2*1048576)))
              (IntKind.u32.wrap
               (bits2 BinOp.and IntKind.u32 ((IntKind.u32.wrap imm).fdiv 1) 4095*1048576))),
            Value.int IntKind.i64 0]
        else none
      else none
    else none
  else none
else none:=by kernel_rfl
theorem t18T (op rd rs1 rs2 imm o f3 f7:Int):execC (lookF FL) sc43 1000 x18_74 (T18 true) (H18 op rd rs1 rs2 imm 84 o f3 f7) 103 (valK [2,3])=bif
  ((!!rs2==0||!rs2==0)&&true||false) &&
   (((!!rs2==0&&false||true)&&!!rs2==0||!!!rs2==0) &&
    ((!!rs2==0&&false&&true||!(!!rs2==0&&false)) &&
     ((!!rs2==0&&false&&true||!(!!rs2==0&&false)) &&
      ((!!rs2==0&&true||!!!rs2==0) &&
       ((!!rs2==0&&(!!rs2==0&&true)||!!!rs2==0)&&true)))))then
 bif bif !rs2==0 then true else false then some [Value.int IntKind.u32 0,Value.int IntKind.i64 2]
 else
  bif
    ((!decide (rd<0)||decide (rd<0))&&true||false) &&
     ((!decide (rd<0)&&true||!!decide (rd<0))&&true)then
   bif bif decide (rd<0)then true else decide (rd>31)then
    some [Value.int IntKind.u32 0,Value.int IntKind.i64 1]
   else
    bif
      ((!decide (rs1<0)||decide (rs1<0))&&true||false) &&
       ((!decide (rs1<0)&&true||!!decide (rs1<0))&&true)then
     bif bif decide (rs1<0)then true else decide (rs1>31)then
      some [Value.int IntKind.u32 0,Value.int IntKind.i64 1]
     else
      bif
        ((!decide (rs2<0)||decide (rs2<0))&&true||false) &&
         ((!decide (rs2<0)&&true||!!decide (rs2<0))&&true)then
       bif bif decide (rs2<0)then true else decide (rs2>31)then
        some [Value.int IntKind.u32 0,Value.int IntKind.i64 1]
       else
        bif
          (((!bif decide (imm<0)then true else decide (imm>63)) ||
                  bif decide (imm<0)then true else decide (imm>63)) &&
             true ||
            false) &&
           (((!decide (imm<0)||decide (imm<0))&&true||false) &&
            ((!decide (imm<0)&&(!decide (imm<0)&&true)||!!decide (imm<0)) &&
             ((!decide (imm<0)&&true||!!decide (imm<0))&&true)))then
         bif bif bif decide (imm<0)then true else decide (imm>63)then true else false then
          some [Value.int IntKind.u32 0,Value.int IntKind.i64 1]
         else
          some
           [Value.int IntKind.u32
             (bits2 BinOp.or IntKind.u32
              (bits2 BinOp.or IntKind.u32
               (bits2 BinOp.or IntKind.u32
                (bits2 BinOp.or IntKind.u32
                 (bits2 BinOp.or IntKind.u32
                  (bits2 BinOp.or IntKind.u32 o (IntKind.u32.wrap (f3*4096)))
                  (IntKind.u32.wrap (f7*33554432)))
                 (IntKind.u32.wrap (IntKind.u32.wrap rd*128)))
                (IntKind.u32.wrap (IntKind.u32.wrap rs1*32768)))
               (IntKind.u32.wrap (IntKind.u32.wrap rs2*1048576)))
              (IntKind.u32.wrap
               (bits2 BinOp.and IntKind.u32 ((IntKind.u32.wrap imm).fdiv 1) 63*1048576))),
            Value.int IntKind.i64 0]
        else none
      else none
    else none
  else none
else none:=by kernel_rfl
theorem t18S (op rd rs1 rs2 imm o f3 f7:Int):execC (lookF FL) sc43 1000 x18_74 (T18 true) (H18 op rd rs1 rs2 imm 83 o f3 f7) 103 (valK [2,3])=bif
  ((rd==0||!rd==0)&&true||false) &&
   (((rd==0&&false||true)&&rd==0||!rd==0) &&
    ((rd==0&&false&&true||!(rd==0&&false)) &&
     ((rd==0&&false&&true||!(rd==0&&false)) &&
      ((rd==0&&false&&true||!(rd==0&&false))&&((rd==0&&true||!rd==0)&&true)))))then
 bif
   (((bif rd==0 then true else false)||!bif rd==0 then true else false)&&true||false) &&
    (((((bif rd==0 then true else false)&&false||true)&&bif rd==0 then true else false) ||
        !bif rd==0 then true else false) &&
     (((bif rd==0 then true else false)&&false&&true||!((bif rd==0 then true else false)&&false)) &&
      (((bif rd==0 then true else false)&&false&&true||!((bif rd==0 then true else false)&&false)) &&
       (((bif rd==0 then true else false)&&false&&true ||
         !((bif rd==0 then true else false)&&false)) &&
        (((bif rd==0 then true else false)&&true||!bif rd==0 then true else false)&&true)))))then
  bif
    (((!!bif bif rd==0 then true else false then true else false) ||
        !bif bif rd==0 then true else false then true else false) &&
       true ||
      false) &&
     (((((!!bif bif rd==0 then true else false then true else false)&&false||true) &&
        !!bif bif rd==0 then true else false then true else false) ||
         !!!bif bif rd==0 then true else false then true else false) &&
      (((!!bif bif rd==0 then true else false then true else false)&&false&&true ||
        !((!!bif bif rd==0 then true else false then true else false)&&false)) &&
       (((!!bif bif rd==0 then true else false then true else false)&&false&&true ||
         !((!!bif bif rd==0 then true else false then true else false)&&false)) &&
        (((!!bif bif rd==0 then true else false then true else false)&&true ||
          !!!bif bif rd==0 then true else false then true else false) &&
         (((!!bif bif rd==0 then true else false then true else false) &&
            ((!!bif bif rd==0 then true else false then true else false)&&true) ||
           !!!bif bif rd==0 then true else false then true else false) &&
          true)))))then
   bif bif !bif bif rd==0 then true else false then true else false then true else false then
    some [Value.int IntKind.u32 0,Value.int IntKind.i64 2]
   else
    bif
      ((!decide (rd<0)||decide (rd<0))&&true||false) &&
       ((!decide (rd<0)&&true||!!decide (rd<0))&&true)then
     bif bif decide (rd<0)then true else decide (rd>31)then
      some [Value.int IntKind.u32 0,Value.int IntKind.i64 1]
     else
      bif
        ((!decide (rs1<0)||decide (rs1<0))&&true||false) &&
         ((!decide (rs1<0)&&true||!!decide (rs1<0))&&true)then
       bif bif decide (rs1<0)then true else decide (rs1>31)then
        some [Value.int IntKind.u32 0,Value.int IntKind.i64 1]
       else
        bif
          ((!decide (rs2<0)||decide (rs2<0))&&true||false) &&
           ((!decide (rs2<0)&&true||!!decide (rs2<0))&&true)then
         bif bif decide (rs2<0)then true else decide (rs2>31)then
          some [Value.int IntKind.u32 0,Value.int IntKind.i64 1]
         else
          bif
            (((!bif decide (imm < -2048)then true else decide (imm>2047)) ||
                    bif decide (imm < -2048)then true else decide (imm>2047)) &&
               true ||
              false) &&
             (((!decide (imm < -2048)||decide (imm < -2048))&&true||false) &&
              ((!decide (imm < -2048)&&(!decide (imm < -2048)&&true)||!!decide (imm < -2048)) &&
               ((!decide (imm < -2048)&&true||!!decide (imm < -2048))&&true)))then
           bif bif bif decide (imm < -2048)then true else decide (imm>2047)then true else false then
            some [Value.int IntKind.u32 0,Value.int IntKind.i64 1]
           else
            some
             [Value.int IntKind.u32
               (bits2 BinOp.or IntKind.u32
                (bits2 BinOp.or IntKind.u32
                 (bits2 BinOp.or IntKind.u32
                  (bits2 BinOp.or IntKind.u32
                   (bits2 BinOp.or IntKind.u32
                    (bits2 BinOp.or IntKind.u32
                     (bits2 BinOp.or IntKind.u32 o (IntKind.u32.wrap (f3*4096)))
                     (IntKind.u32.wrap (f7*33554432)))
                    (IntKind.u32.wrap (IntKind.u32.wrap rd*128)))
                   (IntKind.u32.wrap (IntKind.u32.wrap rs1*32768)))
                  (IntKind.u32.wrap (IntKind.u32.wrap rs2*1048576)))
                 (IntKind.u32.wrap
                  (bits2 BinOp.and IntKind.u32 ((IntKind.u32.wrap imm).fdiv 1) 31*128)))
                (IntKind.u32.wrap
                 (bits2 BinOp.and IntKind.u32 ((IntKind.u32.wrap imm).fdiv 32) 127*33554432))),
              Value.int IntKind.i64 0]
          else none
        else none
      else none
    else none
  else none
 else none
else none:=by kernel_rfl
theorem t18B (op rd rs1 rs2 imm o f3 f7:Int):execC (lookF FL) sc43 1000 x18_74 (T18 true) (H18 op rd rs1 rs2 imm 66 o f3 f7) 103 (valK [2,3])=bif
  ((rd==0||!rd==0)&&true||false) &&
   (((rd==0&&false||true)&&rd==0||!rd==0) &&
    ((rd==0&&false&&true||!(rd==0&&false)) &&
     ((rd==0&&false&&true||!(rd==0&&false)) &&
      ((rd==0&&false&&true||!(rd==0&&false))&&((rd==0&&true||!rd==0)&&true)))))then
 bif
   (((bif rd==0 then true else false)||!bif rd==0 then true else false)&&true||false) &&
    (((((bif rd==0 then true else false)&&false||true)&&bif rd==0 then true else false) ||
        !bif rd==0 then true else false) &&
     (((bif rd==0 then true else false)&&false&&true||!((bif rd==0 then true else false)&&false)) &&
      (((bif rd==0 then true else false)&&false&&true||!((bif rd==0 then true else false)&&false)) &&
       (((bif rd==0 then true else false)&&false&&true ||
         !((bif rd==0 then true else false)&&false)) &&
        (((bif rd==0 then true else false)&&true||!bif rd==0 then true else false)&&true)))))then
  bif
    (((!!bif bif rd==0 then true else false then true else false) ||
        !bif bif rd==0 then true else false then true else false) &&
       true ||
      false) &&
     (((((!!bif bif rd==0 then true else false then true else false)&&false||true) &&
        !!bif bif rd==0 then true else false then true else false) ||
         !!!bif bif rd==0 then true else false then true else false) &&
      (((!!bif bif rd==0 then true else false then true else false)&&false&&true ||
        !((!!bif bif rd==0 then true else false then true else false)&&false)) &&
       (((!!bif bif rd==0 then true else false then true else false)&&false&&true ||
         !((!!bif bif rd==0 then true else false then true else false)&&false)) &&
        (((!!bif bif rd==0 then true else false then true else false)&&true ||
          !!!bif bif rd==0 then true else false then true else false) &&
         (((!!bif bif rd==0 then true else false then true else false) &&
            ((!!bif bif rd==0 then true else false then true else false)&&true) ||
           !!!bif bif rd==0 then true else false then true else false) &&
          true)))))then
   bif bif !bif bif rd==0 then true else false then true else false then true else false then
    some [Value.int IntKind.u32 0,Value.int IntKind.i64 2]
   else
    bif
      ((!decide (rd<0)||decide (rd<0))&&true||false) &&
       ((!decide (rd<0)&&true||!!decide (rd<0))&&true)then
     bif bif decide (rd<0)then true else decide (rd>31)then
      some [Value.int IntKind.u32 0,Value.int IntKind.i64 1]
     else
      bif
        ((!decide (rs1<0)||decide (rs1<0))&&true||false) &&
         ((!decide (rs1<0)&&true||!!decide (rs1<0))&&true)then
       bif bif decide (rs1<0)then true else decide (rs1>31)then
        some [Value.int IntKind.u32 0,Value.int IntKind.i64 1]
       else
        bif
          ((!decide (rs2<0)||decide (rs2<0))&&true||false) &&
           ((!decide (rs2<0)&&true||!!decide (rs2<0))&&true)then
         bif bif decide (rs2<0)then true else decide (rs2>31)then
          some [Value.int IntKind.u32 0,Value.int IntKind.i64 1]
         else
          bif
            (((!bif decide (imm < -4096)then true else decide (imm>4094)) ||
                    bif decide (imm < -4096)then true else decide (imm>4094)) &&
               true ||
              false) &&
             (((!decide (imm < -4096)||decide (imm < -4096))&&true||false) &&
              ((!decide (imm < -4096)&&(!decide (imm < -4096)&&true)||!!decide (imm < -4096)) &&
               ((!decide (imm < -4096)&&true||!!decide (imm < -4096))&&true)))then
           bif
             bif bif decide (imm < -4096)then true else decide (imm>4094)then true
             else bits2 BinOp.and IntKind.i64 imm 1==1 then
            some [Value.int IntKind.u32 0,Value.int IntKind.i64 1]
           else
            some
             [Value.int IntKind.u32
               (bits2 BinOp.or IntKind.u32
                (bits2 BinOp.or IntKind.u32
                 (bits2 BinOp.or IntKind.u32
                  (bits2 BinOp.or IntKind.u32
                   (bits2 BinOp.or IntKind.u32
                    (bits2 BinOp.or IntKind.u32
                     (bits2 BinOp.or IntKind.u32
                      (bits2 BinOp.or IntKind.u32
                       (bits2 BinOp.or IntKind.u32 o (IntKind.u32.wrap (f3*4096)))
                       (IntKind.u32.wrap (f7*33554432)))
                      (IntKind.u32.wrap (IntKind.u32.wrap rd*128)))
                     (IntKind.u32.wrap (IntKind.u32.wrap rs1*32768)))
                    (IntKind.u32.wrap (IntKind.u32.wrap rs2*1048576)))
                   (IntKind.u32.wrap
                    (bits2 BinOp.and IntKind.u32 ((IntKind.u32.wrap imm).fdiv 2048) 1*128)))
                  (IntKind.u32.wrap
                   (bits2 BinOp.and IntKind.u32 ((IntKind.u32.wrap imm).fdiv 2) 15*256)))
                 (IntKind.u32.wrap
                  (bits2 BinOp.and IntKind.u32 ((IntKind.u32.wrap imm).fdiv 32) 63*33554432)))
                (IntKind.u32.wrap
                 (bits2 BinOp.and IntKind.u32 ((IntKind.u32.wrap imm).fdiv 4096) 1*2147483648))),
              Value.int IntKind.i64 0]
          else none
        else none
      else none
    else none
  else none
 else none
else none:=by kernel_rfl
theorem t18U (op rd rs1 rs2 imm o f3 f7:Int):execC (lookF FL) sc43 1000 x18_74 (T18 true) (H18 op rd rs1 rs2 imm 85 o f3 f7) 103 (valK [2,3])=bif
  ((rs1==0||!rs1==0)&&true||false) &&
   (((rs1==0&&true||false)&&rs1==0||!rs1==0) &&
    ((rs1==0&&true&&true||!(rs1==0&&true)) &&
     ((rs1==0&&true&&true||!(rs1==0&&true)) &&
      ((rs1==0&&true&&true||!(rs1==0&&true))&&((rs1==0&&true||!rs1==0)&&true)))))then
 bif
   (((!!bif rs1==0 then rs2==0 else false)||!bif rs1==0 then rs2==0 else false)&&true||false) &&
    (((((!!bif rs1==0 then rs2==0 else false)&&false||true)&&!!bif rs1==0 then rs2==0 else false) ||
        !!!bif rs1==0 then rs2==0 else false) &&
     (((!!bif rs1==0 then rs2==0 else false)&&false&&true ||
       !((!!bif rs1==0 then rs2==0 else false)&&false)) &&
      (((!!bif rs1==0 then rs2==0 else false)&&false&&true ||
        !((!!bif rs1==0 then rs2==0 else false)&&false)) &&
       (((!!bif rs1==0 then rs2==0 else false)&&true||!!!bif rs1==0 then rs2==0 else false) &&
        (((!!bif rs1==0 then rs2==0 else false)&&((!!bif rs1==0 then rs2==0 else false)&&true) ||
          !!!bif rs1==0 then rs2==0 else false) &&
         true)))))then
  bif bif !bif rs1==0 then rs2==0 else false then true else false then
   some [Value.int IntKind.u32 0,Value.int IntKind.i64 2]
  else
   bif
     ((!decide (rd<0)||decide (rd<0))&&true||false) &&
      ((!decide (rd<0)&&true||!!decide (rd<0))&&true)then
    bif bif decide (rd<0)then true else decide (rd>31)then
     some [Value.int IntKind.u32 0,Value.int IntKind.i64 1]
    else
     bif
       ((!decide (rs1<0)||decide (rs1<0))&&true||false) &&
        ((!decide (rs1<0)&&true||!!decide (rs1<0))&&true)then
      bif bif decide (rs1<0)then true else decide (rs1>31)then
       some [Value.int IntKind.u32 0,Value.int IntKind.i64 1]
      else
       bif
         ((!decide (rs2<0)||decide (rs2<0))&&true||false) &&
          ((!decide (rs2<0)&&true||!!decide (rs2<0))&&true)then
        bif bif decide (rs2<0)then true else decide (rs2>31)then
         some [Value.int IntKind.u32 0,Value.int IntKind.i64 1]
        else
         bif
           (((!bif decide (imm < -524288)then true else decide (imm>524287)) ||
                   bif decide (imm < -524288)then true else decide (imm>524287)) &&
              true ||
             false) &&
            (((!decide (imm < -524288)||decide (imm < -524288))&&true||false) &&
             ((!decide (imm < -524288)&&(!decide (imm < -524288)&&true)||!!decide (imm < -524288)) &&
              ((!decide (imm < -524288)&&true||!!decide (imm < -524288))&&true)))then
          bif bif bif decide (imm < -524288)then true else decide (imm>524287)then true else false then
           some [Value.int IntKind.u32 0,Value.int IntKind.i64 1]
          else
           some
            [Value.int IntKind.u32
              (bits2 BinOp.or IntKind.u32
               (bits2 BinOp.or IntKind.u32
                (bits2 BinOp.or IntKind.u32
                 (bits2 BinOp.or IntKind.u32
                  (bits2 BinOp.or IntKind.u32
                   (bits2 BinOp.or IntKind.u32 o (IntKind.u32.wrap (f3*4096)))
                   (IntKind.u32.wrap (f7*33554432)))
                  (IntKind.u32.wrap (IntKind.u32.wrap rd*128)))
                 (IntKind.u32.wrap (IntKind.u32.wrap rs1*32768)))
                (IntKind.u32.wrap (IntKind.u32.wrap rs2*1048576)))
               (IntKind.u32.wrap
                (bits2 BinOp.and IntKind.u32 ((IntKind.u32.wrap imm).fdiv 1) 1048575*4096))),
             Value.int IntKind.i64 0]
         else none
       else none
     else none
   else none
 else none
else none:=by kernel_rfl
theorem t18J (op rd rs1 rs2 imm o f3 f7:Int):execC (lookF FL) sc43 1000 x18_74 (T18 true) (H18 op rd rs1 rs2 imm 74 o f3 f7) 103 (valK [2,3])=bif
  ((rs1==0||!rs1==0)&&true||false) &&
   (((rs1==0&&true||false)&&rs1==0||!rs1==0) &&
    ((rs1==0&&true&&true||!(rs1==0&&true)) &&
     ((rs1==0&&true&&true||!(rs1==0&&true)) &&
      ((rs1==0&&true&&true||!(rs1==0&&true))&&((rs1==0&&true||!rs1==0)&&true)))))then
 bif
   (((!!bif rs1==0 then rs2==0 else false)||!bif rs1==0 then rs2==0 else false)&&true||false) &&
    (((((!!bif rs1==0 then rs2==0 else false)&&false||true)&&!!bif rs1==0 then rs2==0 else false) ||
        !!!bif rs1==0 then rs2==0 else false) &&
     (((!!bif rs1==0 then rs2==0 else false)&&false&&true ||
       !((!!bif rs1==0 then rs2==0 else false)&&false)) &&
      (((!!bif rs1==0 then rs2==0 else false)&&false&&true ||
        !((!!bif rs1==0 then rs2==0 else false)&&false)) &&
       (((!!bif rs1==0 then rs2==0 else false)&&true||!!!bif rs1==0 then rs2==0 else false) &&
        (((!!bif rs1==0 then rs2==0 else false)&&((!!bif rs1==0 then rs2==0 else false)&&true) ||
          !!!bif rs1==0 then rs2==0 else false) &&
         true)))))then
  bif bif !bif rs1==0 then rs2==0 else false then true else false then
   some [Value.int IntKind.u32 0,Value.int IntKind.i64 2]
  else
   bif
     ((!decide (rd<0)||decide (rd<0))&&true||false) &&
      ((!decide (rd<0)&&true||!!decide (rd<0))&&true)then
    bif bif decide (rd<0)then true else decide (rd>31)then
     some [Value.int IntKind.u32 0,Value.int IntKind.i64 1]
    else
     bif
       ((!decide (rs1<0)||decide (rs1<0))&&true||false) &&
        ((!decide (rs1<0)&&true||!!decide (rs1<0))&&true)then
      bif bif decide (rs1<0)then true else decide (rs1>31)then
       some [Value.int IntKind.u32 0,Value.int IntKind.i64 1]
      else
       bif
         ((!decide (rs2<0)||decide (rs2<0))&&true||false) &&
          ((!decide (rs2<0)&&true||!!decide (rs2<0))&&true)then
        bif bif decide (rs2<0)then true else decide (rs2>31)then
         some [Value.int IntKind.u32 0,Value.int IntKind.i64 1]
        else
         bif
           (((!bif decide (imm < -1048576)then true else decide (imm>1048574)) ||
                   bif decide (imm < -1048576)then true else decide (imm>1048574)) &&
              true ||
             false) &&
            (((!decide (imm < -1048576)||decide (imm < -1048576))&&true||false) &&
             ((!decide (imm < -1048576)&&(!decide (imm < -1048576)&&true) ||
               !!decide (imm < -1048576)) &&
              ((!decide (imm < -1048576)&&true||!!decide (imm < -1048576))&&true)))then
          bif
            bif bif decide (imm < -1048576)then true else decide (imm>1048574)then true
            else bits2 BinOp.and IntKind.i64 imm 1==1 then
           some [Value.int IntKind.u32 0,Value.int IntKind.i64 1]
          else
           some
            [Value.int IntKind.u32
              (bits2 BinOp.or IntKind.u32
               (bits2 BinOp.or IntKind.u32
                (bits2 BinOp.or IntKind.u32
                 (bits2 BinOp.or IntKind.u32
                  (bits2 BinOp.or IntKind.u32
                   (bits2 BinOp.or IntKind.u32
                    (bits2 BinOp.or IntKind.u32
                     (bits2 BinOp.or IntKind.u32
                      (bits2 BinOp.or IntKind.u32 o (IntKind.u32.wrap (f3*4096)))
                      (IntKind.u32.wrap (f7*33554432)))
                     (IntKind.u32.wrap (IntKind.u32.wrap rd*128)))
                    (IntKind.u32.wrap (IntKind.u32.wrap rs1*32768)))
                   (IntKind.u32.wrap (IntKind.u32.wrap rs2*1048576)))
                  (IntKind.u32.wrap
                   (bits2 BinOp.and IntKind.u32 ((IntKind.u32.wrap imm).fdiv 4096) 255*4096)))
                 (IntKind.u32.wrap
                  (bits2 BinOp.and IntKind.u32 ((IntKind.u32.wrap imm).fdiv 2048) 1*1048576)))
                (IntKind.u32.wrap
                 (bits2 BinOp.and IntKind.u32 ((IntKind.u32.wrap imm).fdiv 2) 1023*2097152)))
               (IntKind.u32.wrap
                (bits2 BinOp.and IntKind.u32 ((IntKind.u32.wrap imm).fdiv 1048576) 1*2147483648))),
             Value.int IntKind.i64 0]
         else none
       else none
     else none
   else none
 else none
else none:=by kernel_rfl
theorem t18N (op rd rs1 rs2 imm o f3 f7:Int):execC (lookF FL) sc43 1000 x18_74 (T18 true) (H18 op rd rs1 rs2 imm 78 o f3 f7) 103 (valK [2,3])=bif
  ((rd==0||!rd==0)&&true||false) &&
   (((rd==0&&true||false)&&rd==0||!rd==0) &&
    ((rd==0&&true&&true||!(rd==0&&true)) &&
     ((rd==0&&true&&true||!(rd==0&&true)) &&
      ((rd==0&&true&&true||!(rd==0&&true))&&((rd==0&&true||!rd==0)&&true)))))then
 bif
   (((bif rd==0 then rs1==0 else false)||!bif rd==0 then rs1==0 else false)&&true||false) &&
    (((((bif rd==0 then rs1==0 else false)&&true||false)&&bif rd==0 then rs1==0 else false) ||
        !bif rd==0 then rs1==0 else false) &&
     (((bif rd==0 then rs1==0 else false)&&true&&true ||
       !((bif rd==0 then rs1==0 else false)&&true)) &&
      (((bif rd==0 then rs1==0 else false)&&true&&true ||
        !((bif rd==0 then rs1==0 else false)&&true)) &&
       (((bif rd==0 then rs1==0 else false)&&true&&true ||
         !((bif rd==0 then rs1==0 else false)&&true)) &&
        (((bif rd==0 then rs1==0 else false)&&true||!bif rd==0 then rs1==0 else false) &&
         true)))))then
  bif
    (((!!bif bif rd==0 then rs1==0 else false then rs2==0 else false) ||
        !bif bif rd==0 then rs1==0 else false then rs2==0 else false) &&
       true ||
      false) &&
     (((((!!bif bif rd==0 then rs1==0 else false then rs2==0 else false)&&true||false) &&
        !!bif bif rd==0 then rs1==0 else false then rs2==0 else false) ||
         !!!bif bif rd==0 then rs1==0 else false then rs2==0 else false) &&
      (((!!bif bif rd==0 then rs1==0 else false then rs2==0 else false)&&true&&true ||
        !((!!bif bif rd==0 then rs1==0 else false then rs2==0 else false)&&true)) &&
       (((!!bif bif rd==0 then rs1==0 else false then rs2==0 else false)&&true&&true ||
         !((!!bif bif rd==0 then rs1==0 else false then rs2==0 else false)&&true)) &&
        (((!!bif bif rd==0 then rs1==0 else false then rs2==0 else false)&&true ||
          !!!bif bif rd==0 then rs1==0 else false then rs2==0 else false) &&
         (((!!bif bif rd==0 then rs1==0 else false then rs2==0 else false) &&
            ((!!bif bif rd==0 then rs1==0 else false then rs2==0 else false)&&true) ||
           !!!bif bif rd==0 then rs1==0 else false then rs2==0 else false) &&
          true)))))then
   bif bif !bif bif rd==0 then rs1==0 else false then rs2==0 else false then true else imm != 0 then
    some [Value.int IntKind.u32 0,Value.int IntKind.i64 2]
   else
    bif
      ((!decide (rd<0)||decide (rd<0))&&true||false) &&
       ((!decide (rd<0)&&true||!!decide (rd<0))&&true)then
     bif bif decide (rd<0)then true else decide (rd>31)then
      some [Value.int IntKind.u32 0,Value.int IntKind.i64 1]
     else
      bif
        ((!decide (rs1<0)||decide (rs1<0))&&true||false) &&
         ((!decide (rs1<0)&&true||!!decide (rs1<0))&&true)then
       bif bif decide (rs1<0)then true else decide (rs1>31)then
        some [Value.int IntKind.u32 0,Value.int IntKind.i64 1]
       else
        bif
          ((!decide (rs2<0)||decide (rs2<0))&&true||false) &&
           ((!decide (rs2<0)&&true||!!decide (rs2<0))&&true)then
         bif bif decide (rs2<0)then true else decide (rs2>31)then
          some [Value.int IntKind.u32 0,Value.int IntKind.i64 1]
         else
          bif
            ((bif decide (imm<1)then true else decide (imm>0))&&false||true) &&
             ((decide (imm<1)&&false||true)&&true)then
           some
            [Value.int IntKind.u32
              (bits2 BinOp.or IntKind.u32
               (bits2 BinOp.or IntKind.u32
                (bits2 BinOp.or IntKind.u32
                 (bits2 BinOp.or IntKind.u32
                  (bits2 BinOp.or IntKind.u32 o (IntKind.u32.wrap (f3*4096)))
                  (IntKind.u32.wrap (f7*33554432)))
                 (IntKind.u32.wrap (IntKind.u32.wrap rd*128)))
                (IntKind.u32.wrap (IntKind.u32.wrap rs1*32768)))
               (IntKind.u32.wrap (IntKind.u32.wrap rs2*1048576))),
             Value.int IntKind.i64 0]
          else none
        else none
      else none
    else none
  else none
 else none
else none:=by kernel_rfl
theorem t18Z (op rd rs1 rs2 imm o f3 f7:Int):execC (lookF FL) sc43 1000 x18_74 (T18 false) (H18 op rd rs1 rs2 imm 0 o f3 f7) 103 (valK [2,3])=some [Value.int IntKind.u32 0,Value.int IntKind.i64 2]:=by kernel_rfl
end Go.X
